/- Merged texts, part 6. -/
import Derived.Test.YtghgnofilbnbaaaGreatQ5
import Derived.SizedLaws
import Derived.Test.YtghgnofilbnbaaaGreatProg
set_option linter.all false
/- part Cz4 -/
namespace Go.Proofs.YtghgnofilbnbaaaGreat
open Go Bx
set_option maxHeartbeats 4000000 in
/-- barrage/barrageref10.act -/
theorem c_ract {c : Crew} {cs : List Value} {i : Nat} {x : Acn} {w0 : World} (h : RCrew w0 cs c) (hn : 1 ≤ c.ops.length) (hi : i ≤ 1000) : CV Tryz.prog 39 #[.agg cs.toArray, .int .i64 (i : Int), .agg (actC x).toArray] w0 (.int .i64 (actE c i x)) := by
  obtain ⟨ov, kv, nv, rfl, hso, hsk, hsn, hrm⟩ := id h
  obtain ⟨a, cap, rfl, hcap, hmx, hel⟩ := id hso
  obtain ⟨ak, ck, rfl, hckap, hkmx, helk⟩ := id hsk
  obtain ⟨an, cn, rfl, hncap, hnmx, heln⟩ := id hsn
  refine enter Tryz.func39 rfl Tryz.ntmps39 rfl ?_
  have hS := St.start w0
  refine seq ?_
  refine region ?_
  refine sbox hS rfl rfl ?_; clear hS; intro b3 w hS
  refine sbox hS rfl rfl ?_; clear hS; intro b5 w hS
  refine sv (yAsg rfl) ?_
  refine nil ?_
  show Code.wp _ _ _ _ _
  refine seq ?_
  refine seq ?_
  refine region ?_
  refine sv (fa86_0 rfl) ?_
  refine sv (yLdB rfl Tryz.isAgg3 (hS.at _) rfl) ?_
  refine scall Tryz.call32 (.cons rfl .nil) c_rminute ?_
  rintro _ w ⟨rfl, hE⟩; replace hS := hS.step hE; clear hE
  refine sv (yNot rfl) ?_
  refine nil ?_
  show Code.wp _ _ _ _ _
  refine cond rfl (fun c11 => ?_) (fun c11 => ?_)
  ·
    refine seq ?_
    refine region ?_
    refine sv (yAsg rfl) ?_
    refine nil ?_
    show Code.wp _ _ _ _ _
    refine wp_ret (thenR ?_)
    exact retV (res1 rfl (eqI (by rw [← actR_eq hn]; unfold actR; rw [if_pos c11]))) hS.ext
  ·
    refine skip ?_
    show Code.wp _ _ _ _ _
    refine seq ?_
    refine seq ?_
    refine region ?_
    refine sv (fa86_1 rfl) ?_
    refine sv (yLdB rfl Tryz.isAgg3 (hS.at _) rfl) ?_
    refine sv (fa26_0 rfl) ?_
    refine sv (yLdB rfl Tryz.isAgg22 (hS.at _) rfl) ?_
    refine sv (yLen rfl Tryz.underlying22) ?_
    refine sv (ySub rfl rfl ⟨by omega, by omega⟩) ?_
    refine scall Tryz.call48 (.cons rfl (.cons rfl (.cons rfl .nil))) c_in ?_
    rintro _ w ⟨rfl, hE⟩; replace hS := hS.step hE; clear hE
    refine sv (yNot rfl) ?_
    refine nil ?_
    show Code.wp _ _ _ _ _
    refine cond rfl (fun c19 => ?_) (fun c19 => ?_)
    ·
      refine seq ?_
      refine region ?_
      refine sv (yAsg rfl) ?_
      refine nil ?_
      show Code.wp _ _ _ _ _
      refine wp_ret (thenR ?_)
      exact retV (res1 rfl (eqI (by rw [← actR_eq hn]; unfold actR; rw [if_neg (by rw [c11]; decide), if_pos c19]))) hS.ext
    ·
      refine skip ?_
      show Code.wp _ _ _ _ _
      refine seq ?_
      refine seq ?_
      refine cutK (fun f => f 1 = .int .i64 (i : Int) ∧ f 3 = .pointer (some ⟨b3, 0, none⟩) ∧ f 5 = .pointer (some ⟨b5, 0, none⟩) ∧ True) ⟨rfl, rfl, rfl, trivial⟩ ?_
      rintro f ⟨h1, h3, h5, -⟩
      refine region ?_
      refine sv (fa86_2 h5) ?_
      refine sv (yLdB rfl Tryz.isAgg3 (hS.at _) rfl) ?_
      refine scall Tryz.call48 (.cons rfl (.cons rfl (.cons rfl .nil))) c_in ?_
      rintro _ w ⟨rfl, hE⟩; replace hS := hS.step hE; clear hE
      refine sv (yNot rfl) ?_
      refine sv (yMove rfl) ?_
      refine sg rfl rfl rfl (fun g => (fa86_4 h5)) (fun v25 g25 => ?_)
      refine sg rfl rfl rfl (fun g => (yLdB (g25.1 g) Tryz.isAgg3 (hS.at _) rfl)) (fun v26 g26 => ?_)
      refine sg rfl rfl rfl (fun g => (yNeq (g26.1 g) rfl)) (fun v27 g27 => ?_)
      refine sg rfl rfl rfl (fun g => (yMove (g27.1 g))) (fun v28 g28 => ?_)
      refine sgg rfl rfl g28 (fun g => (fa86_2 h5)) (fun v29 g29 => ?_)
      refine sgg rfl rfl g28 (fun g => (yLdB (g29.1 g) Tryz.isAgg3 (hS.at _) rfl)) (fun v30 g30 => ?_)
      refine sgg rfl rfl g28 (fun g => (yNeq (g30.1 g) rfl)) (fun v31 g31 => ?_)
      refine sg rfl rfl rfl (fun g => (yAnd (g28.1 g) (fun hB => (g31.1 ⟨g, hB⟩)) rfl)) (fun v32 g32 => ?_)
      refine sv (yOr rfl rfl (fun hB => (g32.1 hB))) ?_
      refine sv (yMove rfl) ?_
      refine sg rfl rfl rfl (fun g => (fa86_5 h5)) (fun v35 g35 => ?_)
      refine sg rfl rfl rfl (fun g => (yLdB (g35.1 g) Tryz.isAgg3 (hS.at _) rfl)) (fun v36 g36 => ?_)
      refine sg rfl rfl rfl (fun g => (yNeq (g36.1 g) rfl)) (fun v37 g37 => ?_)
      refine sg rfl rfl rfl (fun g => (yMove (g37.1 g))) (fun v38 g38 => ?_)
      refine sgg rfl rfl g38 (fun g => (fa86_2 h5)) (fun v39 g39 => ?_)
      refine sgg rfl rfl g38 (fun g => (yLdB (g39.1 g) Tryz.isAgg3 (hS.at _) rfl)) (fun v40 g40 => ?_)
      refine sgg rfl rfl g38 (fun g => (yNeq (g40.1 g) rfl)) (fun v41 g41 => ?_)
      refine sg rfl rfl rfl (fun g => (yAnd (g38.1 g) (fun hB => (g41.1 ⟨g, hB⟩)) rfl)) (fun v42 g42 => ?_)
      refine sv (yOr rfl rfl (fun hB => (g42.1 hB))) ?_
      refine nil ?_
      show Code.wp _ _ _ _ _
      refine cond rfl (fun c43 => ?_) (fun c43 => ?_)
      ·
        refine seq ?_
        refine region ?_
        refine sv (yAsg rfl) ?_
        refine nil ?_
        show Code.wp _ _ _ _ _
        refine wp_ret (thenR ?_)
        exact retV (res1 rfl (eqI (by rw [← actR_eq hn]; unfold actR; rw [if_neg (by rw [c11]; decide), if_neg (by rw [c19]; decide), if_pos c43]))) hS.ext
      ·
        refine skip ?_
        show Code.wp _ _ _ _ _
        refine seq ?_
        refine region ?_
        refine sv (fa26_1 h3) ?_
        refine sv (yLdB rfl Tryz.isAgg23 (hS.at _) rfl) ?_
        refine sv (yLen rfl Tryz.underlying23) ?_
        refine sv (yAsg rfl) ?_
        refine nil ?_
        show Code.wp _ _ _ _ _
        refine seqJ (n := 97) (fun f w => f 1 = .int .i64 (i : Int) ∧ f 3 = .pointer (some ⟨b3, 0, none⟩) ∧ f 5 = .pointer (some ⟨b5, 0, none⟩) ∧ f 7 = .int .i64 (if x.dw = 4 then (c.kinds.length : Int) else c.keys.length) ∧ StX [] w0 w [blk b5 [.int .i64 x.tm, .int .i64 x.who, .int .i64 x.dw, .int .i64 x.what, .int .i64 x.to, .int .i64 x.subj] 86, blk b3 [.slice a c.ops.length cap, .slice ak c.keys.length ck, .slice an c.kinds.length cn] 26] ∧ ((!inB x.tm 0 100000) = false) ∧ ((!inB x.who 0 ((c.ops.length : Int) - 1)) = false) ∧ ((((!inB x.dw 1 6) || (decide (x.to ≠ 0) && decide (x.dw ≠ 2))) || (decide (x.subj ≠ 0) && decide (x.dw ≠ 4))) = false) ∧ True) ?_ ?_
        ·
          refine seq ?_
          refine region ?_
          refine sv (fa86_2 h5) ?_
          refine sv (yLdB rfl Tryz.isAgg3 (hS.at _) rfl) ?_
          refine sv (yEql rfl rfl) ?_
          refine nil ?_
          show Code.wp _ _ _ _ _
          refine cond rfl (fun c49 => ?_) (fun c49 => ?_)
          ·
            simp only [Bool.and_eq_true, Bool.or_eq_true, Bool.and_eq_false_iff, Bool.or_eq_false_iff, decide_eq_true_eq, decide_eq_false_iff_not, Bool.not_eq_true, Bool.not_eq_false, Bool.not_not, Bool.not_eq_eq_eq_not, Bool.not_true, Bool.not_false, Bool.false_eq_true, Bool.true_eq_false, ne_eq, Decidable.not_not, not_false_eq_true, not_true_eq_false] at c49
            refine region ?_
            refine sv (fa26_2 h3) ?_
            refine sv (yLdB rfl Tryz.isAgg24 (hS.at _) rfl) ?_
            refine sv (yLen rfl Tryz.underlying24) ?_
            refine sv (yAsg rfl) ?_
            refine nil ?_
            exact ⟨_, rfl, h1, h3, h5, rfl.trans (congrArg (Value.int .i64) (if_pos c49).symm), hS, (c11), (c19), (c43), trivial⟩
          ·
            simp only [Bool.and_eq_true, Bool.or_eq_true, Bool.and_eq_false_iff, Bool.or_eq_false_iff, decide_eq_true_eq, decide_eq_false_iff_not, Bool.not_eq_true, Bool.not_eq_false, Bool.not_not, Bool.not_eq_eq_eq_not, Bool.not_true, Bool.not_false, Bool.false_eq_true, Bool.true_eq_false, ne_eq, Decidable.not_not, not_false_eq_true, not_true_eq_false] at c49
            refine skip ?_
            exact ⟨_, rfl, h1, h3, h5, rfl.trans (congrArg (Value.int .i64) (if_neg c49).symm), hS, (c11), (c19), (c43), trivial⟩
        ·
          clear hS; rintro f w ⟨h1, h3, h5, h7, hS, q1, q2, q3, -⟩
          refine seqJ (n := 97) (fun f w => f 1 = .int .i64 (i : Int) ∧ f 3 = .pointer (some ⟨b3, 0, none⟩) ∧ f 5 = .pointer (some ⟨b5, 0, none⟩) ∧ f 7 = .int .i64 (manyA c i x) ∧ StX [] w0 w [blk b5 [.int .i64 x.tm, .int .i64 x.who, .int .i64 x.dw, .int .i64 x.what, .int .i64 x.to, .int .i64 x.subj] 86, blk b3 [.slice a c.ops.length cap, .slice ak c.keys.length ck, .slice an c.kinds.length cn] 26] ∧ ((!inB x.tm 0 100000) = false) ∧ ((!inB x.who 0 ((c.ops.length : Int) - 1)) = false) ∧ ((((!inB x.dw 1 6) || (decide (x.to ≠ 0) && decide (x.dw ≠ 2))) || (decide (x.subj ≠ 0) && decide (x.dw ≠ 4))) = false) ∧ (0 ≤ manyA c i x ∧ manyA c i x ≤ 9223372036854775807) ∧ True) ?_ ?_
          ·
            refine seq ?_
            refine region ?_
            refine sv (fa86_2 h5) ?_
            refine sv (yLdB rfl Tryz.isAgg3 (hS.at _) rfl) ?_
            refine sv (yEql rfl rfl) ?_
            refine sv (yMove rfl) ?_
            refine sg rfl rfl rfl (fun g => (fa86_2 h5)) (fun v57 g57 => ?_)
            refine sg rfl rfl rfl (fun g => (yLdB (g57.1 g) Tryz.isAgg3 (hS.at _) rfl)) (fun v58 g58 => ?_)
            refine sg rfl rfl rfl (fun g => (yEql (g58.1 g) rfl)) (fun v59 g59 => ?_)
            refine sv (yOr rfl rfl (fun hB => (g59.1 hB))) ?_
            refine nil ?_
            show Code.wp _ _ _ _ _
            refine cond rfl (fun c60 => ?_) (fun c60 => ?_)
            ·
              simp only [Bool.and_eq_true, Bool.or_eq_true, Bool.and_eq_false_iff, Bool.or_eq_false_iff, decide_eq_true_eq, decide_eq_false_iff_not, Bool.not_eq_true, Bool.not_eq_false, Bool.not_not, Bool.not_eq_eq_eq_not, Bool.not_true, Bool.not_false, Bool.false_eq_true, Bool.true_eq_false, ne_eq, Decidable.not_not, not_false_eq_true, not_true_eq_false] at c60
              refine region ?_
              refine sv (yMove h1) ?_
              refine sv (yAsg rfl) ?_
              refine nil ?_
              have hmb : 0 ≤ manyA c i x ∧ manyA c i x ≤ 9223372036854775807 := by unfold manyA; by_cases h4 : x.dw = 4; (rw [if_pos h4]; omega); rw [if_neg h4]; by_cases h5 : x.dw = 5 ∨ x.dw = 6; (rw [if_pos h5]; omega); rw [if_neg h5]; omega
              exact ⟨_, rfl, h1, h3, h5, rfl.trans (congrArg (Value.int .i64) (by unfold manyA; rw [if_neg (by omega), if_pos c60])), hS, (q1), (q2), (q3), (hmb), trivial⟩
            ·
              simp only [Bool.and_eq_true, Bool.or_eq_true, Bool.and_eq_false_iff, Bool.or_eq_false_iff, decide_eq_true_eq, decide_eq_false_iff_not, Bool.not_eq_true, Bool.not_eq_false, Bool.not_not, Bool.not_eq_eq_eq_not, Bool.not_true, Bool.not_false, Bool.false_eq_true, Bool.true_eq_false, ne_eq, Decidable.not_not, not_false_eq_true, not_true_eq_false] at c60
              refine skip ?_
              have hmb : 0 ≤ manyA c i x ∧ manyA c i x ≤ 9223372036854775807 := by unfold manyA; by_cases h4 : x.dw = 4; (rw [if_pos h4]; omega); rw [if_neg h4]; by_cases h5 : x.dw = 5 ∨ x.dw = 6; (rw [if_pos h5]; omega); rw [if_neg h5]; omega
              exact ⟨_, rfl, h1, h3, h5, h7.trans (congrArg (Value.int .i64) (by unfold manyA; by_cases h4 : x.dw = 4; rw [if_pos h4, if_pos h4]; rw [if_neg h4, if_neg h4, if_neg (by omega)])), hS, (q1), (q2), (q3), (hmb), trivial⟩
          ·
            clear hS; rintro f w ⟨h1, h3, h5, h7, hS, q1, q2, q3, hmb, -⟩
            refine seq ?_
            refine seq ?_
            refine cutK (fun f => f 1 = .int .i64 (i : Int) ∧ f 3 = .pointer (some ⟨b3, 0, none⟩) ∧ f 5 = .pointer (some ⟨b5, 0, none⟩) ∧ f 7 = .int .i64 (manyA c i x) ∧ True) ⟨h1, h3, h5, h7, trivial⟩ ?_
            rintro f ⟨h1, h3, h5, h7, -⟩
            refine region ?_
            refine sv (fa86_3 h5) ?_
            refine sv (yLdB rfl Tryz.isAgg3 (hS.at _) rfl) ?_
            refine sv (yMove h7) ?_
            refine sv (ySub rfl rfl ⟨by omega, by omega⟩) ?_
            refine scall Tryz.call48 (.cons rfl (.cons rfl (.cons rfl .nil))) c_in ?_
            rintro _ w ⟨rfl, hE⟩; replace hS := hS.step hE; clear hE
            refine sv (yNot rfl) ?_
            refine sv (yMove rfl) ?_
            refine sg rfl rfl rfl (fun g => (fa86_2 h5)) (fun v69 g69 => ?_)
            refine sg rfl rfl rfl (fun g => (yLdB (g69.1 g) Tryz.isAgg3 (hS.at _) rfl)) (fun v70 g70 => ?_)
            refine sg rfl rfl rfl (fun g => (yEql (g70.1 g) rfl)) (fun v71 g71 => ?_)
            refine sg rfl rfl rfl (fun g => (yMove (g71.1 g))) (fun v72 g72 => ?_)
            refine sgg rfl rfl g72 (fun g => (fa86_4 h5)) (fun v73 g73 => ?_)
            refine sgg rfl rfl g72 (fun g => (yLdB (g73.1 g) Tryz.isAgg3 (hS.at _) rfl)) (fun v74 g74 => ?_)
            refine sgg rfl rfl g72 (fun g => (fa26_0 h3)) (fun v75 g75 => ?_)
            refine sgg rfl rfl g72 (fun g => (yLdB (g75.1 g) Tryz.isAgg22 (hS.at _) rfl)) (fun v76 g76 => ?_)
            refine sgg rfl rfl g72 (fun g => (yLen (g76.1 g) Tryz.underlying22)) (fun v77 g77 => ?_)
            refine sgg rfl rfl g72 (fun g => (ySub (g77.1 g) rfl ⟨by omega, by omega⟩)) (fun v78 g78 => ?_)
            refine sggc hS rfl rfl g72 Tryz.call48 (fun g => (.cons (g74.1 g) (.cons rfl (.cons (g78.1 g) .nil)))) (fun g => c_in) ?_; clear hS; intro v79 w hS g79
            refine sgg rfl rfl g72 (fun g => (yNot (g79.1 g))) (fun v80 g80 => ?_)
            refine sg rfl rfl rfl (fun g => (yAnd (g72.1 g) (fun hB => (g80.1 ⟨g, hB⟩)) rfl)) (fun v81 g81 => ?_)
            refine sv (yOr rfl rfl (fun hB => (g81.1 hB))) ?_
            refine nil ?_
            show Code.wp _ _ _ _ _
            refine cond rfl (fun c82 => ?_) (fun c82 => ?_)
            ·
              refine seq ?_
              refine region ?_
              refine sv (yAsg rfl) ?_
              refine nil ?_
              show Code.wp _ _ _ _ _
              refine wp_ret (thenR ?_)
              exact retV (res1 rfl (eqI (by rw [← actR_eq hn]; unfold actR; rw [if_neg (by rw [q1]; decide), if_neg (by rw [q2]; decide), if_neg (by rw [q3]; decide), if_pos c82]))) hS.ext
            ·
              refine skip ?_
              show Code.wp _ _ _ _ _
              refine seq ?_
              refine seq ?_
              refine cutK (fun f => f 1 = .int .i64 (i : Int) ∧ f 3 = .pointer (some ⟨b3, 0, none⟩) ∧ f 5 = .pointer (some ⟨b5, 0, none⟩) ∧ True) ⟨h1, h3, h5, trivial⟩ ?_
              rintro f ⟨h1, h3, h5, -⟩
              refine region ?_
              refine sv (fa86_2 h5) ?_
              refine sv (yLdB rfl Tryz.isAgg3 (hS.at _) rfl) ?_
              refine sv (yEql rfl rfl) ?_
              refine sv (yMove rfl) ?_
              refine sg rfl rfl rfl (fun g => (fa86_4 h5)) (fun v87 g87 => ?_)
              refine sg rfl rfl rfl (fun g => (yLdB (g87.1 g) Tryz.isAgg3 (hS.at _) rfl)) (fun v88 g88 => ?_)
              refine sg rfl rfl rfl (fun g => (fa86_1 h5)) (fun v89 g89 => ?_)
              refine sg rfl rfl rfl (fun g => (yLdB (g89.1 g) Tryz.isAgg3 (hS.at _) rfl)) (fun v90 g90 => ?_)
              refine sg rfl rfl rfl (fun g => (yEql (g88.1 g) (g90.1 g))) (fun v91 g91 => ?_)
              refine sv (yAnd rfl (fun hB => (g91.1 hB)) rfl) ?_
              refine nil ?_
              show Code.wp _ _ _ _ _
              refine cond rfl (fun c92 => ?_) (fun c92 => ?_)
              ·
                refine seq ?_
                refine region ?_
                refine sv (yAsg rfl) ?_
                refine nil ?_
                show Code.wp _ _ _ _ _
                refine wp_ret (thenR ?_)
                exact retV (res1 rfl (eqI (by rw [← actR_eq hn]; unfold actR; rw [if_neg (by rw [q1]; decide), if_neg (by rw [q2]; decide), if_neg (by rw [q3]; decide), if_neg (by rw [c82]; decide), if_pos c92]))) hS.ext
              ·
                refine skip ?_
                show Code.wp _ _ _ _ _
                refine seq ?_
                refine seq ?_
                refine region ?_
                refine sv (fa86_5 h5) ?_
                refine sv (yLdB rfl Tryz.isAgg3 (hS.at _) rfl) ?_
                refine scall Tryz.call48 (.cons rfl (.cons rfl (.cons rfl .nil))) c_in ?_
                rintro _ w ⟨rfl, hE⟩; replace hS := hS.step hE; clear hE
                refine sv (yNot rfl) ?_
                refine nil ?_
                show Code.wp _ _ _ _ _
                refine cond rfl (fun c96 => ?_) (fun c96 => ?_)
                ·
                  refine seq ?_
                  refine region ?_
                  refine sv (yAsg rfl) ?_
                  refine nil ?_
                  show Code.wp _ _ _ _ _
                  refine wp_ret (thenR ?_)
                  exact retV (res1 rfl (eqI (by rw [← actR_eq hn]; unfold actR; rw [if_neg (by rw [q1]; decide), if_neg (by rw [q2]; decide), if_neg (by rw [q3]; decide), if_neg (by rw [c82]; decide), if_neg (by rw [c92]; decide), if_pos c96]))) hS.ext
                ·
                  refine skip ?_
                  show Code.wp _ _ _ _ _
                  refine seq ?_
                  refine region ?_
                  refine sv (yAsg rfl) ?_
                  refine nil ?_
                  show Code.wp _ _ _ _ _
                  refine wp_ret ?_
                  exact retV (res1 rfl (eqI (by rw [← actR_eq hn]; unfold actR; rw [if_neg (by rw [q1]; decide), if_neg (by rw [q2]; decide), if_neg (by rw [q3]; decide), if_neg (by rw [c82]; decide), if_neg (by rw [c92]; decide), if_neg (by rw [c96]; decide)]))) hS.ext
set_option maxHeartbeats 2000000 in
/-- barrage/barrageref10.valid -/
theorem c_rvalid {c : Crew} {cs : List Value} {acts : List Acn} {av : Value} {w0 : World} (h : RCrew w0 cs c) (ha : Sl w0 6 RAct av acts) : CV Tryz.prog 18 #[.agg cs.toArray, av] w0 (.int .i64 (playE c acts)) := by
  obtain ⟨ov, kv, nv, rfl, hso, hsk, hsn, hrm⟩ := id h
  obtain ⟨a, cap, rfl, hcap, hmx, hel⟩ := id hso
  obtain ⟨aa, ca, rfl, hacap, hamx, hela⟩ := id ha
  refine enter Tryz.func18 rfl Tryz.ntmps18 rfl ?_
  have hS := St.start w0
  refine seq ?_
  refine region ?_
  refine sbox hS rfl rfl ?_; clear hS; intro b2 w hS
  refine sv (yAsg rfl) ?_
  refine nil ?_
  show Code.wp _ _ _ _ _
  refine seq ?_
  refine region ?_
  refine sv (yLdBA rfl Tryz.isAgg26 Tryz.sizeOf26 (hS.at _) rfl rfl) ?_
  refine scall Tryz.call38 (.cons rfl .nil) (c_rCheck (h.ext hS.ext)) ?_
  rintro _ w ⟨rfl, hE⟩; replace hS := hS.step hE; clear hE
  refine sv (yMove rfl) ?_
  refine sv (yExt rfl rfl) ?_
  refine sv (yExt rfl rfl) ?_
  refine sv (yExt rfl rfl) ?_
  refine sv (yAsg rfl) ?_
  refine sv (yAsg rfl) ?_
  refine sv (yAsg rfl) ?_
  refine nil ?_
  show Code.wp _ _ _ _ _
  refine seqJ (n := 40) (fun f w => ∃ (e : Int), f 1 = .slice aa acts.length ca ∧ f 2 = .pointer (some ⟨b2, 0, none⟩) ∧ f 7 = .int .i64 e ∧ StX [] w0 w [blk b2 [.slice a c.ops.length cap, kv, nv] 26] ∧ (playE c acts = if e ≠ 0 then e else firstA c acts 0) ∧ (e = 0 → (checkC c).2.2 = 0 ∧ acts.length ≤ 60) ∧ True) ?_ ?_
  ·
    refine seq ?_
    refine region ?_
    refine sv (yMove rfl) ?_
    refine sv (yEql rfl rfl) ?_
    refine sv (yMove rfl) ?_
    refine sg rfl rfl rfl (fun g => (yMove rfl)) (fun v18 g18 => ?_)
    refine sg rfl rfl rfl (fun g => (yLen (g18.1 g) Tryz.underlying27)) (fun v19 g19 => ?_)
    refine sg rfl rfl rfl (fun g => (yGtr (g19.1 g) rfl)) (fun v20 g20 => ?_)
    refine sv (yAnd rfl (fun hB => (g20.1 hB)) rfl) ?_
    refine nil ?_
    show Code.wp _ _ _ _ _
    refine cond rfl (fun c21 => ?_) (fun c21 => ?_)
    ·
      simp only [Bool.and_eq_true, Bool.or_eq_true, Bool.and_eq_false_iff, Bool.or_eq_false_iff, decide_eq_true_eq, decide_eq_false_iff_not, Bool.not_eq_true, Bool.not_eq_false, Bool.not_not, Bool.not_eq_eq_eq_not, Bool.not_true, Bool.not_false, Bool.false_eq_true, Bool.true_eq_false, ne_eq, Decidable.not_not, not_false_eq_true, not_true_eq_false] at c21
      refine region ?_
      refine sv (yAsg rfl) ?_
      refine nil ?_
      exact ⟨_, rfl, 3, rfl, rfl, rfl, hS, (by unfold playE; rw [if_neg (not_not_intro c21.1), if_pos c21.2]; rfl), (fun h9 => by cases h9), trivial⟩
    ·
      simp only [Bool.and_eq_true, Bool.or_eq_true, Bool.and_eq_false_iff, Bool.or_eq_false_iff, decide_eq_true_eq, decide_eq_false_iff_not, Bool.not_eq_true, Bool.not_eq_false, Bool.not_not, Bool.not_eq_eq_eq_not, Bool.not_true, Bool.not_false, Bool.false_eq_true, Bool.true_eq_false, ne_eq, Decidable.not_not, not_false_eq_true, not_true_eq_false] at c21
      refine skip ?_
      exact ⟨_, rfl, _, rfl, rfl, rfl, hS, (by unfold playE; by_cases h9 : (checkC c).2.2 = 0; rw [if_neg (not_not_intro h9), if_neg (not_not_intro h9), if_neg (by omega)]; rw [if_pos h9, if_pos h9]), (fun h9 => ⟨h9, by omega⟩), trivial⟩
  ·
    clear hS; rintro f w ⟨e, h1, h2, h7, hS, hE, h0, -⟩
    refine seq ?_
    refine seq ?_
    refine region ?_
    refine sv (yAsg rfl) ?_
    refine nil ?_
    show Code.wp _ _ _ _ _
    refine block ?_
    refine loop (fun f w zz => ∃ (k : Nat) (e : Int), f 1 = .slice aa acts.length ca ∧ f 2 = .pointer (some ⟨b2, 0, none⟩) ∧ f 7 = .int .i64 e ∧ f 8 = .int .i64 (k : Int) ∧ StX [] w0 w [blk b2 [.slice a c.ops.length cap, kv, nv] 26] ∧ (k ≤ acts.length) ∧ (playE c acts = if e ≠ 0 then e else firstA c (acts.drop k) k) ∧ (e = 0 → (checkC c).2.2 = 0 ∧ acts.length ≤ 60) ∧ zz = acts.length - k) _ ⟨_, rfl, 0, e, h1, h2, h7, rfl, hS, (Nat.zero_le _), (hE), (h0), rfl⟩ ?_
    clear hS
    rintro f w _ ⟨k, e, h1, h2, h7, h8, hS, hk, hE, h0, rfl⟩
    refine seq ?_
    refine seq ?_
    refine region ?_
    refine sv (yMove h8) ?_
    refine sv (yMove h1) ?_
    refine sv (yLen rfl Tryz.underlying27) ?_
    refine sv (yLss rfl rfl) ?_
    refine sv (yMove rfl) ?_
    refine sg rfl rfl rfl (fun g => (yMove h7)) (fun v27 g27 => ?_)
    refine sg rfl rfl rfl (fun g => (yEql (g27.1 g) rfl)) (fun v28 g28 => ?_)
    refine sv (yAnd rfl (fun hB => (g28.1 hB)) rfl) ?_
    refine nil ?_
    show Code.wp _ _ _ _ _
    refine cond rfl (fun c29 => ?_) (fun c29 => ?_)
    ·
      simp only [Bool.and_eq_true, Bool.or_eq_true, Bool.and_eq_false_iff, Bool.or_eq_false_iff, decide_eq_true_eq, decide_eq_false_iff_not, Bool.not_eq_true, Bool.not_eq_false, Bool.not_not, Bool.not_eq_eq_eq_not, Bool.not_true, Bool.not_false, Bool.false_eq_true, Bool.true_eq_false, ne_eq, Decidable.not_not, not_false_eq_true, not_true_eq_false] at c29
      refine skip ?_
      show Code.wp _ _ _ _ _
      refine seq ?_
      refine block ?_
      refine region_draw mixed (by kernel_rfl) hS ?_
      obtain ⟨hk0, hn60⟩ := h0 c29.2
      have hcr := crewOk_of hk0
      have hn9 := hcr.nops
      obtain ⟨x, hxq, hdq⟩ := drop_of (l := acts) (k := k) (by omega)
      obtain ⟨bq, oq, csq, haq, hlenq, hcsq, hRq⟩ := hela (k) (by omega)
      obtain rfl : x = acts[k] := (List.getElem?_eq_some_iff.1 hxq).2.symm
      generalize acts[k] = x at hxq hdq hRq
      obtain ⟨rfl, hxi⟩ := hRq
      refine qv (fun w hS => (yLdBA h2 Tryz.isAgg26 Tryz.sizeOf26 (hS.at _) rfl rfl)) ?_
      refine qv (fun w hS => (yMove h8)) ?_
      refine qv (fun w hS => (yMove h1)) ?_
      refine qv (fun w hS => (yMove h8)) ?_
      refine qv (fun w hS => (yIxa rfl haq rfl Tryz.runUnderlying27 Tryz.sizeOf86 (by omega) (by omega))) ?_
      refine qv (fun w hS => (yLdA rfl Tryz.isAgg86 Tryz.sizeOf86 (hcsq.ext hS.ext) rfl)) ?_
      refine qcall Tryz.call39 (.cons rfl (.cons rfl (.cons rfl .nil))) (fun w hS => (c_ract (h.ext hS.ext) (by omega) (by omega))) ?_
      refine qv (fun w hS => (yAsg rfl)) ?_
      clear hS; refine qnil (fun w hS => ?_)
      show Code.wp _ _ _ _ _
      refine region ?_
      refine sv (yMove h8) ?_
      refine sv (yAdd rfl rfl ⟨by omega, by omega⟩) ?_
      refine sv (yAsg rfl) ?_
      refine nil ?_
      exact ⟨_, _, rfl, ⟨k + 1, actE c k x, h1, h2, rfl, rfl, hS, (by omega), (by rw [hE, if_neg (not_not_intro c29.2), hdq, firstA]; rfl), (fun _ => h0 c29.2), rfl⟩, by omega⟩
    ·
      simp only [Bool.and_eq_true, Bool.or_eq_true, Bool.and_eq_false_iff, Bool.or_eq_false_iff, decide_eq_true_eq, decide_eq_false_iff_not, Bool.not_eq_true, Bool.not_eq_false, Bool.not_not, Bool.not_eq_eq_eq_not, Bool.not_true, Bool.not_false, Bool.false_eq_true, Bool.true_eq_false, ne_eq, Decidable.not_not, not_false_eq_true, not_true_eq_false] at c29
      refine exit ?_
      show Code.wp _ _ _ _ _
      refine seq ?_
      refine region ?_
      refine sv (yMove h7) ?_
      refine sv (yAsg rfl) ?_
      refine nil ?_
      show Code.wp _ _ _ _ _
      refine wp_ret ?_
      exact retV (res1 rfl (eqI (by rw [hE]; by_cases h9 : e = 0; rw [if_neg (not_not_intro h9), h9, List.drop_of_length_le (by omega)]; rfl; rw [if_pos h9]))) hS.ext
end Go.Proofs.YtghgnofilbnbaaaGreat
/- part Cz5 -/
namespace Go.Proofs.YtghgnofilbnbaaaGreat
open Go Bx
set_option maxHeartbeats 8000000 in
/-- barrage/barrageref10.played -/
theorem c_played {c : Crew} {cs : List Value} {acts : List Acn} {av : Value} {w0 : World} (h : RCrew w0 cs c) (hc : CrewOk c) (ha : Sl w0 6 RAct av acts) (hall : ∀ (j : Nat) y, acts[j]? = some y → ActOk c j y) (hn : acts.length ≤ 60) : CE Tryz.prog 19 #[.agg cs.toArray, av] w0 (fun u w' => ∃ rv bv ov kv, u = .agg #[rv, bv, ov, kv, .int .i64 (plN c acts acts.length).2.now] ∧ St w0 w' [rowI rv 29 1 (acts.length) (((plN c acts acts.length).1).flatMap Bx.encI), rowI bv 4 1 (acts.length) ((opnB (acts.length) (plN c acts acts.length).2.opn).flatMap encB), rowI ov 66 5 ((plN c acts acts.length).2.ords).length (((plN c acts acts.length).2.ords).flatMap ordC), rowI kv 3 1 ((plN c acts acts.length).2.hold).length (((plN c acts acts.length).2.hold).flatMap Bx.encI)]) := by
  obtain ⟨ov, kv, nv, rfl, hso, hsk, hsn, hrm⟩ := id h
  obtain ⟨a, cap, rfl, hcap, hmx, hel⟩ := id hso
  obtain ⟨ak, ck, rfl, hckap, hkmx, helk⟩ := id hsk
  obtain ⟨an, cn, rfl, hncap, hnmx, heln⟩ := id hsn
  obtain ⟨aa, ca, rfl, hacap, hamx, hela⟩ := id ha
  have hkn := hc.nkeys
  refine enter Tryz.func19 rfl Tryz.ntmps19 rfl ?_
  have hS := St.start w0
  refine seq ?_
  refine region ?_
  refine sbox hS rfl rfl ?_; clear hS; intro b2 w hS
  refine salloc hS Tryz.zeroValue60 rfl ?_; clear hS; intro b4 w hS
  refine nil ?_
  show Code.wp _ _ _ _ _
  refine seq ?_
  refine region ?_
  refine salloc hS Tryz.zeroValue60 rfl ?_; clear hS; intro b5 w hS
  refine nil ?_
  show Code.wp _ _ _ _ _
  refine seq ?_
  refine seq ?_
  refine region ?_
  refine sv (yAsg rfl) ?_
  refine nil ?_
  show Code.wp _ _ _ _ _
  refine block ?_
  replace hS := hS.nilrow 3 1
  refine loop (fun f w zz => ∃ (k : Nat) (kv : Value), f 1 = .slice aa acts.length ca ∧ f 2 = .pointer (some ⟨b2, 0, none⟩) ∧ f 4 = .pointer (some ⟨b4, 0, none⟩) ∧ f 5 = .pointer (some ⟨b5, 0, none⟩) ∧ f 6 = .int .i64 (k : Int) ∧ StX [] w0 w [rowI kv 3 1 k ((List.replicate k (-1 : Int)).flatMap Bx.encI), blk b5 [.slice none 0 0, .slice none 0 0, .slice none 0 0, kv, .int .i64 0] 60, blk b4 [.slice none 0 0, .slice none 0 0, .slice none 0 0, .slice none 0 0, .int .i64 0] 60, blk b2 [.slice a c.ops.length cap, .slice ak c.keys.length ck, .slice an c.kinds.length cn] 26] ∧ (k ≤ c.keys.length) ∧ zz = c.keys.length - k) _ ⟨_, rfl, 0, _, rfl, rfl, rfl, rfl, rfl, hS, (Nat.zero_le _), rfl⟩ ?_
  clear hS
  rintro f w _ ⟨k, kv, h1, h2, h4, h5, h6, hS, hk, rfl⟩
  refine seq ?_
  refine seq ?_
  refine region ?_
  refine sv (yMove h6) ?_
  refine sv (fa26_1 h2) ?_
  refine sv (yLdB rfl Tryz.isAgg23 (hS.at _) rfl) ?_
  refine sv (yLen rfl Tryz.underlying23) ?_
  refine sv (yLss rfl rfl) ?_
  refine nil ?_
  show Code.wp _ _ _ _ _
  refine cond rfl (fun c15 => ?_) (fun c15 => ?_)
  ·
    simp only [Bool.and_eq_true, Bool.or_eq_true, Bool.and_eq_false_iff, Bool.or_eq_false_iff, decide_eq_true_eq, decide_eq_false_iff_not, Bool.not_eq_true, Bool.not_eq_false, Bool.not_not, Bool.not_eq_eq_eq_not, Bool.not_true, Bool.not_false, Bool.false_eq_true, Bool.true_eq_false, ne_eq, Decidable.not_not, not_false_eq_true, not_true_eq_false] at c15
    refine skip ?_
    show Code.wp _ _ _ _ _
    refine seq ?_
    refine block ?_
    refine region ?_
    refine sv (fa60_3 h5) ?_
    refine sv (yLdB rfl Tryz.isAgg37 (hS.at _) rfl) ?_
    refine sbslice hS Tryz.underlying37 Tryz.sizeOf3 rfl Tryz.zeroValue3 rfl (.cons rfl rfl .nil) rfl ?_; clear hS; intro b20 w hS
    refine sapp (bytes := 8) (size := 1) (v := kv) (m := 1) hS rfl rfl Tryz.underlying37 ti3 rfl rfl rfl rfl (by decide) (blk_cells (hS.at _)) rfl rfl (by omega) (by omega) ?_; clear hS; intro v21 w hS
    refine sv (fa60_3 h5) ?_
    obtain ⟨gv21, cpv21, rfl, -⟩ := row_some (hS.row v21) (Nat.succ_pos _)
    refine sst hS rfl rfl Tryz.sizeOf37 rfl rfl rfl rfl ?_; clear hS; intro w hS
    refine nil ?_
    show Code.wp _ _ _ _ _
    refine region ?_
    refine sv (yMove h6) ?_
    refine sv (yAdd rfl rfl ⟨by omega, by omega⟩) ?_
    refine sv (yAsg rfl) ?_
    refine nil ?_
    exact ⟨_, _, rfl, ⟨k + 1, _, h1, h2, h4, h5, rfl, (by rw [List.replicate_succ', List.flatMap_append]; exact hS.sub (.cons _ (List.Sublist.refl _))), (by omega), rfl⟩, by omega⟩
  ·
    simp only [Bool.and_eq_true, Bool.or_eq_true, Bool.and_eq_false_iff, Bool.or_eq_false_iff, decide_eq_true_eq, decide_eq_false_iff_not, Bool.not_eq_true, Bool.not_eq_false, Bool.not_not, Bool.not_eq_eq_eq_not, Bool.not_true, Bool.not_false, Bool.false_eq_true, Bool.true_eq_false, ne_eq, Decidable.not_not, not_false_eq_true, not_true_eq_false] at c15
    refine exit ?_
    show Code.wp _ _ _ _ _
    refine seq ?_
    refine seq ?_
    obtain rfl : k = c.keys.length := by omega
    have hrow : rowI kv 3 1 c.keys.length ((List.replicate c.keys.length (-1 : Int)).flatMap Bx.encI) = rowI kv 3 1 (plN c acts 0).2.hold.length ((plN c acts 0).2.hold.flatMap Bx.encI) := by rw [show (plN c acts 0).2.hold.length = c.keys.length by simp [plN, rm0]]; rfl
    rw [hrow] at hS
    replace hS := ((hS.nilrow 66 5).nilrow 4 1).nilrow 29 1
    refine cutK (fun f => f 1 = .slice aa acts.length ca ∧ f 2 = .pointer (some ⟨b2, 0, none⟩) ∧ f 4 = .pointer (some ⟨b4, 0, none⟩) ∧ f 5 = .pointer (some ⟨b5, 0, none⟩) ∧ True) ⟨h1, h2, h4, h5, trivial⟩ ?_
    rintro f ⟨h1, h2, h4, h5, -⟩
    refine region ?_
    refine sv (yAsg rfl) ?_
    refine nil ?_
    show Code.wp _ _ _ _ _
    refine block ?_
    refine loop (fun f w zz => ∃ (k : Nat) (rv bv ov kv : Value), f 1 = .slice aa acts.length ca ∧ f 2 = .pointer (some ⟨b2, 0, none⟩) ∧ f 4 = .pointer (some ⟨b4, 0, none⟩) ∧ f 5 = .pointer (some ⟨b5, 0, none⟩) ∧ f 7 = .int .i64 (k : Int) ∧ StX [] w0 w [rowI rv 29 1 (k) (((plN c acts k).1).flatMap Bx.encI), rowI bv 4 1 (k) ((opnB (k) (plN c acts k).2.opn).flatMap encB), rowI ov 66 5 ((plN c acts k).2.ords).length (((plN c acts k).2.ords).flatMap ordC), rowI kv 3 1 ((plN c acts k).2.hold).length (((plN c acts k).2.hold).flatMap Bx.encI), blk b5 [rv, bv, ov, kv, .int .i64 (plN c acts k).2.now] 60, blk b4 [.slice none 0 0, .slice none 0 0, .slice none 0 0, .slice none 0 0, .int .i64 0] 60, blk b2 [.slice a c.ops.length cap, .slice ak c.keys.length ck, .slice an c.kinds.length cn] 26] ∧ (k ≤ acts.length) ∧ (RmOk c acts k (plN c acts k).2) ∧ ((plN c acts k).2.opn.Nodup) ∧ zz = acts.length - k) _ ⟨_, rfl, 0, _, _, _, kv, h1, h2, h4, h5, rfl, hS, (Nat.zero_le _), (rmOk_0 c acts hc), (List.nodup_nil), rfl⟩ ?_
    clear hS
    rintro f w _ ⟨k, rv, bv, ov, kv, h1, h2, h4, h5, h7, hS, hk, hok, hnd, rfl⟩
    refine seq ?_
    refine seq ?_
    refine region ?_
    refine sv (yMove h7) ?_
    refine sv (yMove h1) ?_
    refine sv (yLen rfl Tryz.underlying27) ?_
    refine sv (yLss rfl rfl) ?_
    refine nil ?_
    show Code.wp _ _ _ _ _
    refine cond rfl (fun c26 => ?_) (fun c26 => ?_)
    ·
      simp only [Bool.and_eq_true, Bool.or_eq_true, Bool.and_eq_false_iff, Bool.or_eq_false_iff, decide_eq_true_eq, decide_eq_false_iff_not, Bool.not_eq_true, Bool.not_eq_false, Bool.not_not, Bool.not_eq_eq_eq_not, Bool.not_true, Bool.not_false, Bool.false_eq_true, Bool.true_eq_false, ne_eq, Decidable.not_not, not_false_eq_true, not_true_eq_false] at c26
      refine skip ?_
      show Code.wp _ _ _ _ _
      refine seqJ (n := 145) (fun f w => ∃ (rv bv ov kv : Value), f 1 = .slice aa acts.length ca ∧ f 2 = .pointer (some ⟨b2, 0, none⟩) ∧ f 4 = .pointer (some ⟨b4, 0, none⟩) ∧ f 5 = .pointer (some ⟨b5, 0, none⟩) ∧ f 7 = .int .i64 (k : Int) ∧ StX [] w0 w [rowI rv 29 1 (k + 1) (((plN c acts (k + 1)).1).flatMap Bx.encI), rowI bv 4 1 (k + 1) ((opnB (k + 1) (plN c acts (k + 1)).2.opn).flatMap encB), rowI ov 66 5 ((plN c acts (k + 1)).2.ords).length (((plN c acts (k + 1)).2.ords).flatMap ordC), rowI kv 3 1 ((plN c acts (k + 1)).2.hold).length (((plN c acts (k + 1)).2.hold).flatMap Bx.encI), blk b5 [rv, bv, ov, kv, .int .i64 (plN c acts (k + 1)).2.now] 60, blk b4 [.slice none 0 0, .slice none 0 0, .slice none 0 0, .slice none 0 0, .int .i64 0] 60, blk b2 [.slice a c.ops.length cap, .slice ak c.keys.length ck, .slice an c.kinds.length cn] 26] ∧ (RmOk c acts (k + 1) (plN c acts (k + 1)).2) ∧ ((plN c acts (k + 1)).2.opn.Nodup) ∧ True) ?_ ?_
      ·
        refine block ?_
        refine seq ?_
        refine region ?_
        obtain ⟨x, hxq, hdq⟩ := drop_of (l := acts) (k := k) (by omega)
        obtain ⟨bq, oq, csq, haq, hlenq, hcsq, hRq⟩ := hela (k) (by omega)
        obtain rfl : x = acts[k] := (List.getElem?_eq_some_iff.1 hxq).2.symm
        generalize acts[k] = x at hxq hdq hRq
        obtain ⟨rfl, hxi⟩ := hRq
        replace hcsq : Cells w0 bq (oq + k * 6) [.int .i64 x.tm, .int .i64 x.who, .int .i64 x.dw, .int .i64 x.what, .int .i64 x.to, .int .i64 x.subj] := hcsq
        have hx9 := hall k x hxq
        have hsec := sec0 (i := x.what) hc
        have hpl := plN_succ (c := c) hxq
        refine sv (yMove h1) ?_
        refine sv (yMove h7) ?_
        refine sv (yIxa rfl haq rfl Tryz.runUnderlying27 Tryz.sizeOf86 (by omega) (by omega)) ?_
        refine sv (yLdA rfl Tryz.isAgg86 Tryz.sizeOf86 (hcsq.ext hS.ext) rfl) ?_
        refine salloc hS Tryz.zeroValue86 rfl ?_; clear hS; intro b8 w hS
        refine sst hS rfl rfl Tryz.sizeOf86 rfl rfl rfl rfl ?_; clear hS; intro w hS
        refine nil ?_
        show Code.wp _ _ _ _ _
        refine seq ?_
        refine cutK (fun f => f 1 = .slice aa acts.length ca ∧ f 2 = .pointer (some ⟨b2, 0, none⟩) ∧ f 4 = .pointer (some ⟨b4, 0, none⟩) ∧ f 5 = .pointer (some ⟨b5, 0, none⟩) ∧ f 7 = .int .i64 (k : Int) ∧ f 8 = .pointer (some ⟨b8, 0, none⟩) ∧ True) ⟨h1, h2, h4, h5, h7, rfl, trivial⟩ ?_
        rintro f ⟨h1, h2, h4, h5, h7, h8, -⟩
        refine region ?_
        replace hS : StX [] w0 w (blk b8 [.int .i64 x.tm, .int .i64 x.who, .int .i64 x.dw, .int .i64 x.what, .int .i64 x.to, .int .i64 x.subj] 86 :: rowI rv 29 1 (k) (((plN c acts k).1).flatMap Bx.encI) :: rowI bv 4 1 (k) ((opnB (k) (plN c acts k).2.opn).flatMap encB) :: rowI ov 66 5 ((plN c acts k).2.ords).length (((plN c acts k).2.ords).flatMap ordC) :: rowI kv 3 1 ((plN c acts k).2.hold).length (((plN c acts k).2.hold).flatMap Bx.encI) :: blk b5 [rv, bv, ov, kv, .int .i64 (plN c acts k).2.now] 60 :: blk b4 [.slice none 0 0, .slice none 0 0, .slice none 0 0, .slice none 0 0, .int .i64 0] 60 :: blk b2 [.slice a c.ops.length cap, .slice ak c.keys.length ck, .slice an c.kinds.length cn] 26 :: []) := hS
        refine sv (yLdBA h5 Tryz.isAgg60 Tryz.sizeOf60 (hS.at _) rfl rfl) ?_
        refine sv (yLdBA h2 Tryz.isAgg26 Tryz.sizeOf26 (hS.at _) rfl rfl) ?_
        refine sv (yMove h1) ?_
        refine sv (yLdBA h8 Tryz.isAgg86 Tryz.sizeOf86 (hS.at _) rfl rfl) ?_
        refine scall Tryz.call40 (.cons rfl (.cons rfl (.cons rfl (.cons rfl .nil)))) (c_why (h.ext hS.ext) hc (ha.ext RAct.stays hS.ext) hok hx9 hall (by omega) (sl_ints (hS.row kv) rfl (hok.hold64 hc)) (sl_flags (hS.row bv) (opnB_len _ _))) ?_
        rintro _ w ⟨rfl, hE⟩; replace hS := hS.step hE; clear hE
        rw [whyR_eq (i := (k : Int)) hx9.dw hsec]
        refine sv (yAsg rfl) ?_
        refine nil ?_
        show Code.wp _ _ _ _ _
        refine seqJ (n := 145) (fun f w => ∃ (rv bv : Value), f 1 = .slice aa acts.length ca ∧ f 2 = .pointer (some ⟨b2, 0, none⟩) ∧ f 4 = .pointer (some ⟨b4, 0, none⟩) ∧ f 5 = .pointer (some ⟨b5, 0, none⟩) ∧ f 7 = .int .i64 (k : Int) ∧ f 8 = .pointer (some ⟨b8, 0, none⟩) ∧ f 9 = .int .i64 (doF c acts (k : Int) x (plN c acts k).2).1 ∧ StX [] w0 w [blk b8 [.int .i64 x.tm, .int .i64 x.who, .int .i64 x.dw, .int .i64 x.what, .int .i64 x.to, .int .i64 x.subj] 86, rowI rv 29 1 (k + 1) (((plN c acts k).1 ++ [(doF c acts (k : Int) x (plN c acts k).2).1]).flatMap Bx.encI), rowI bv 4 1 (k + 1) ((opnB (k + 1) (plN c acts k).2.opn).flatMap encB), rowI ov 66 5 ((plN c acts k).2.ords).length (((plN c acts k).2.ords).flatMap ordC), rowI kv 3 1 ((plN c acts k).2.hold).length (((plN c acts k).2.hold).flatMap Bx.encI), blk b5 [rv, bv, ov, kv, .int .i64 (plN c acts k).2.now] 60, blk b4 [.slice none 0 0, .slice none 0 0, .slice none 0 0, .slice none 0 0, .int .i64 0] 60, blk b2 [.slice a c.ops.length cap, .slice ak c.keys.length ck, .slice an c.kinds.length cn] 26] ∧ True) ?_ ?_
        ·
          refine cutK (fun f => f 1 = .slice aa acts.length ca ∧ f 2 = .pointer (some ⟨b2, 0, none⟩) ∧ f 4 = .pointer (some ⟨b4, 0, none⟩) ∧ f 5 = .pointer (some ⟨b5, 0, none⟩) ∧ f 7 = .int .i64 (k : Int) ∧ f 8 = .pointer (some ⟨b8, 0, none⟩) ∧ f 9 = .int .i64 (doF c acts (k : Int) x (plN c acts k).2).1 ∧ True) ⟨h1, h2, h4, h5, h7, h8, rfl, trivial⟩ ?_
          rintro f ⟨h1, h2, h4, h5, h7, h8, h9, -⟩
          refine region_mix (fun w => w.heap[b5]? = some (.cells ([rv, bv, ov, kv, .int .i64 (plN c acts k).2.now] : List Value).toArray 60 (0, 0))) 9 mixed hS ?_
          clear hS; intro w hS
          have hlp := plN_len c acts k
          refine f_step 0 (by kernel_rfl) rfl (fun c a a' w h => by obtain ⟨_, v, hv, _⟩ := h; cases hv) (hS.at b5) (fun w hS => (fa60_0 h5)) ?_
          refine f_step 1 (by kernel_rfl) rfl (fun c a a' w h => by obtain ⟨_, v, hv, _⟩ := h; cases hv) (hS.at b5) (fun w hS => (yLdB rfl Tryz.isAgg28 hS rfl)) ?_
          refine f_step 2 (by kernel_rfl) rfl (fun c a a' w h => by obtain ⟨_, v, hv, _⟩ := h; cases hv) (hS.at b5) (fun w hS => (yMove h9)) ?_
          refine f_step 5 (by kernel_rfl) rfl (fun c a a' w h => by obtain ⟨_, v, hv, _⟩ := h; cases hv) (hS.at b5) (fun w hS => (fa60_1 h5)) ?_
          refine f_step 6 (by kernel_rfl) rfl (fun c a a' w h => by obtain ⟨_, v, hv, _⟩ := h; cases hv) (hS.at b5) (fun w hS => (yLdB rfl Tryz.isAgg58 hS rfl)) ?_
          show wpA _ _ _ _ _ _ _ _ _ _
          refine a_step (i := 3) (is := [7]) (by kernel_rfl) ⟨?_, ?_, trivial⟩
          ·
            refine ⟨_, rfl, ?_⟩
            refine sbslice hS Tryz.underlying28 Tryz.sizeOf29 rfl Tryz.zeroValue29 rfl (.cons rfl rfl .nil) rfl ?_; clear hS; intro b41 w hS
            refine nil ?_
            refine ⟨fun _ => (hS.at b5), ?_⟩
            show wpA _ _ _ _ _ _ _ _ _ _
            show wpA _ _ _ _ _ _ _ _ _ _
            refine a_step (i := 4) (is := [7]) (by kernel_rfl) ⟨?_, ?_, trivial⟩
            ·
              refine ⟨_, rfl, ?_⟩
              refine sapp (bytes := 8) (size := 1) (v := rv) (m := 1) hS rfl rfl Tryz.underlying28 ti29 rfl rfl rfl rfl (by decide) (blk_cells (hS.at _)) rfl rfl (by omega) (by omega) ?_; clear hS; intro v42 w hS
              refine nil ?_
              refine ⟨fun _ => (hS.at b5), ?_⟩
              show wpA _ _ _ _ _ _ _ _ _ _
              show wpA _ _ _ _ _ _ _ _ _ _
              refine a_step (i := 7) (is := [9]) (by kernel_rfl) ⟨?_, ?_, trivial⟩
              ·
                refine ⟨_, rfl, ?_⟩
                refine sbslice hS Tryz.underlying58 Tryz.sizeOf4 rfl Tryz.zeroValue4 rfl (.cons rfl rfl .nil) rfl ?_; clear hS; intro b45 w hS
                refine nil ?_
                refine ⟨fun _ => (hS.at b5), ?_⟩
                show wpA _ _ _ _ _ _ _ _ _ _
                show wpA _ _ _ _ _ _ _ _ _ _
                refine a_step (i := 8) (is := [9]) (by kernel_rfl) ⟨?_, ?_, trivial⟩
                ·
                  refine ⟨_, rfl, ?_⟩
                  refine sapp (bytes := 1) (size := 1) (v := bv) (m := 1) hS rfl rfl Tryz.underlying58 ti4 rfl rfl rfl rfl (by decide) (blk_cells (hS.at _)) rfl rfl (by omega) (by omega) ?_; clear hS; intro v46 w hS
                  refine nil ?_
                  refine ⟨fun _ => (hS.at b5), ?_⟩
                  show wpA _ _ _ _ _ _ _ _ _ _
                  show wpA _ _ _ _ _ _ _ _ _ _
                  refine a_step (i := 9) (is := []) (by kernel_rfl) ⟨?_, trivial⟩
                  refine ⟨_, rfl, ?_⟩
                  refine sv (fa60_0 h5) ?_
                  refine nil ?_
                  refine ⟨fun h => absurd h (by decide), ?_⟩
                  show wpA _ _ _ _ _ _ _ _ _ _
                  show wpA _ _ _ _ _ _ _ _ _ _
                  refine a_step (i := 10) (is := []) (by kernel_rfl) ⟨?_, trivial⟩
                  refine ⟨_, rfl, ?_⟩
                  obtain ⟨gv42, cpv42, rfl, -⟩ := row_some (hS.row v42) (Nat.succ_pos _)
                  refine sst hS rfl rfl Tryz.sizeOf28 rfl rfl rfl rfl ?_; clear hS; intro w hS
                  refine nil ?_
                  refine ⟨fun h => absurd h (by decide), ?_⟩
                  show wpA _ _ _ _ _ _ _ _ _ _
                  show wpA _ _ _ _ _ _ _ _ _ _
                  refine a_step (i := 11) (is := []) (by kernel_rfl) ⟨?_, trivial⟩
                  refine ⟨_, rfl, ?_⟩
                  refine sv (fa60_1 h5) ?_
                  refine nil ?_
                  refine ⟨fun h => absurd h (by decide), ?_⟩
                  show wpA _ _ _ _ _ _ _ _ _ _
                  show wpA _ _ _ _ _ _ _ _ _ _
                  refine a_step (i := 12) (is := []) (by kernel_rfl) ⟨?_, trivial⟩
                  refine ⟨_, rfl, ?_⟩
                  obtain ⟨gv46, cpv46, rfl, -⟩ := row_some (hS.row v46) (Nat.succ_pos _)
                  refine sst hS rfl rfl Tryz.sizeOf58 rfl rfl rfl rfl ?_; clear hS; intro w hS
                  refine nil ?_
                  refine ⟨fun h => absurd h (by decide), ?_⟩
                  show wpA _ _ _ _ _ _ _ _ _ _
                  refine a_end (by kernel_rfl) ?_
                  exact ⟨_, rfl, _, _, h1, h2, h4, h5, h7, h8, h9, (by rw [List.flatMap_append, ← opnB_app (fun j hj => (hok.opn j hj).2.1), List.flatMap_append]; exact hS.sub (.cons _ (.cons _ (List.Sublist.refl _)))), trivial⟩
                ·
                  refine ⟨_, rfl, ?_⟩
                  refine sv (fa60_0 h5) ?_
                  refine nil ?_
                  refine ⟨fun h => absurd h (by decide), ?_⟩
                  show wpA _ _ _ _ _ _ _ _ _ _
                  show wpA _ _ _ _ _ _ _ _ _ _
                  refine a_step (i := 8) (is := []) (by kernel_rfl) ⟨?_, trivial⟩
                  refine ⟨_, rfl, ?_⟩
                  refine sapp (bytes := 1) (size := 1) (v := bv) (m := 1) hS rfl rfl Tryz.underlying58 ti4 rfl rfl rfl rfl (by decide) (blk_cells (hS.at _)) rfl rfl (by omega) (by omega) ?_; clear hS; intro v46 w hS
                  refine nil ?_
                  refine ⟨fun _ => (hS.at b5), ?_⟩
                  show wpA _ _ _ _ _ _ _ _ _ _
                  show wpA _ _ _ _ _ _ _ _ _ _
                  refine a_step (i := 10) (is := []) (by kernel_rfl) ⟨?_, trivial⟩
                  refine ⟨_, rfl, ?_⟩
                  obtain ⟨gv42, cpv42, rfl, -⟩ := row_some (hS.row v42) (Nat.succ_pos _)
                  refine sst hS rfl rfl Tryz.sizeOf28 rfl rfl rfl rfl ?_; clear hS; intro w hS
                  refine nil ?_
                  refine ⟨fun h => absurd h (by decide), ?_⟩
                  show wpA _ _ _ _ _ _ _ _ _ _
                  show wpA _ _ _ _ _ _ _ _ _ _
                  refine a_step (i := 11) (is := []) (by kernel_rfl) ⟨?_, trivial⟩
                  refine ⟨_, rfl, ?_⟩
                  refine sv (fa60_1 h5) ?_
                  refine nil ?_
                  refine ⟨fun h => absurd h (by decide), ?_⟩
                  show wpA _ _ _ _ _ _ _ _ _ _
                  show wpA _ _ _ _ _ _ _ _ _ _
                  refine a_step (i := 12) (is := []) (by kernel_rfl) ⟨?_, trivial⟩
                  refine ⟨_, rfl, ?_⟩
                  obtain ⟨gv46, cpv46, rfl, -⟩ := row_some (hS.row v46) (Nat.succ_pos _)
                  refine sst hS rfl rfl Tryz.sizeOf58 rfl rfl rfl rfl ?_; clear hS; intro w hS
                  refine nil ?_
                  refine ⟨fun h => absurd h (by decide), ?_⟩
                  show wpA _ _ _ _ _ _ _ _ _ _
                  refine a_end (by kernel_rfl) ?_
                  exact ⟨_, rfl, _, _, h1, h2, h4, h5, h7, h8, h9, (by rw [List.flatMap_append, ← opnB_app (fun j hj => (hok.opn j hj).2.1), List.flatMap_append]; exact hS.sub (.cons _ (.cons _ (List.Sublist.refl _)))), trivial⟩
              ·
                refine ⟨_, rfl, ?_⟩
                refine sv (fa60_0 h5) ?_
                refine nil ?_
                refine ⟨fun h => absurd h (by decide), ?_⟩
                show wpA _ _ _ _ _ _ _ _ _ _
                show wpA _ _ _ _ _ _ _ _ _ _
                refine a_step (i := 7) (is := []) (by kernel_rfl) ⟨?_, trivial⟩
                refine ⟨_, rfl, ?_⟩
                refine sbslice hS Tryz.underlying58 Tryz.sizeOf4 rfl Tryz.zeroValue4 rfl (.cons rfl rfl .nil) rfl ?_; clear hS; intro b45 w hS
                refine nil ?_
                refine ⟨fun _ => (hS.at b5), ?_⟩
                show wpA _ _ _ _ _ _ _ _ _ _
                show wpA _ _ _ _ _ _ _ _ _ _
                refine a_step (i := 8) (is := []) (by kernel_rfl) ⟨?_, trivial⟩
                refine ⟨_, rfl, ?_⟩
                refine sapp (bytes := 1) (size := 1) (v := bv) (m := 1) hS rfl rfl Tryz.underlying58 ti4 rfl rfl rfl rfl (by decide) (blk_cells (hS.at _)) rfl rfl (by omega) (by omega) ?_; clear hS; intro v46 w hS
                refine nil ?_
                refine ⟨fun _ => (hS.at b5), ?_⟩
                show wpA _ _ _ _ _ _ _ _ _ _
                show wpA _ _ _ _ _ _ _ _ _ _
                refine a_step (i := 10) (is := []) (by kernel_rfl) ⟨?_, trivial⟩
                refine ⟨_, rfl, ?_⟩
                obtain ⟨gv42, cpv42, rfl, -⟩ := row_some (hS.row v42) (Nat.succ_pos _)
                refine sst hS rfl rfl Tryz.sizeOf28 rfl rfl rfl rfl ?_; clear hS; intro w hS
                refine nil ?_
                refine ⟨fun h => absurd h (by decide), ?_⟩
                show wpA _ _ _ _ _ _ _ _ _ _
                show wpA _ _ _ _ _ _ _ _ _ _
                refine a_step (i := 11) (is := []) (by kernel_rfl) ⟨?_, trivial⟩
                refine ⟨_, rfl, ?_⟩
                refine sv (fa60_1 h5) ?_
                refine nil ?_
                refine ⟨fun h => absurd h (by decide), ?_⟩
                show wpA _ _ _ _ _ _ _ _ _ _
                show wpA _ _ _ _ _ _ _ _ _ _
                refine a_step (i := 12) (is := []) (by kernel_rfl) ⟨?_, trivial⟩
                refine ⟨_, rfl, ?_⟩
                obtain ⟨gv46, cpv46, rfl, -⟩ := row_some (hS.row v46) (Nat.succ_pos _)
                refine sst hS rfl rfl Tryz.sizeOf58 rfl rfl rfl rfl ?_; clear hS; intro w hS
                refine nil ?_
                refine ⟨fun h => absurd h (by decide), ?_⟩
                show wpA _ _ _ _ _ _ _ _ _ _
                refine a_end (by kernel_rfl) ?_
                exact ⟨_, rfl, _, _, h1, h2, h4, h5, h7, h8, h9, (by rw [List.flatMap_append, ← opnB_app (fun j hj => (hok.opn j hj).2.1), List.flatMap_append]; exact hS.sub (.cons _ (.cons _ (List.Sublist.refl _)))), trivial⟩
            ·
              refine ⟨_, rfl, ?_⟩
              refine sbslice hS Tryz.underlying58 Tryz.sizeOf4 rfl Tryz.zeroValue4 rfl (.cons rfl rfl .nil) rfl ?_; clear hS; intro b45 w hS
              refine nil ?_
              refine ⟨fun _ => (hS.at b5), ?_⟩
              show wpA _ _ _ _ _ _ _ _ _ _
              show wpA _ _ _ _ _ _ _ _ _ _
              refine a_step (i := 4) (is := []) (by kernel_rfl) ⟨?_, trivial⟩
              refine ⟨_, rfl, ?_⟩
              refine sapp (bytes := 8) (size := 1) (v := rv) (m := 1) hS rfl rfl Tryz.underlying28 ti29 rfl rfl rfl rfl (by decide) (blk_cells (hS.at _)) rfl rfl (by omega) (by omega) ?_; clear hS; intro v42 w hS
              refine nil ?_
              refine ⟨fun _ => (hS.at b5), ?_⟩
              show wpA _ _ _ _ _ _ _ _ _ _
              show wpA _ _ _ _ _ _ _ _ _ _
              refine a_step (i := 8) (is := [9]) (by kernel_rfl) ⟨?_, ?_, trivial⟩
              ·
                refine ⟨_, rfl, ?_⟩
                refine sapp (bytes := 1) (size := 1) (v := bv) (m := 1) hS rfl rfl Tryz.underlying58 ti4 rfl rfl rfl rfl (by decide) (blk_cells (hS.at _)) rfl rfl (by omega) (by omega) ?_; clear hS; intro v46 w hS
                refine nil ?_
                refine ⟨fun _ => (hS.at b5), ?_⟩
                show wpA _ _ _ _ _ _ _ _ _ _
                show wpA _ _ _ _ _ _ _ _ _ _
                refine a_step (i := 9) (is := []) (by kernel_rfl) ⟨?_, trivial⟩
                refine ⟨_, rfl, ?_⟩
                refine sv (fa60_0 h5) ?_
                refine nil ?_
                refine ⟨fun h => absurd h (by decide), ?_⟩
                show wpA _ _ _ _ _ _ _ _ _ _
                show wpA _ _ _ _ _ _ _ _ _ _
                refine a_step (i := 10) (is := []) (by kernel_rfl) ⟨?_, trivial⟩
                refine ⟨_, rfl, ?_⟩
                obtain ⟨gv42, cpv42, rfl, -⟩ := row_some (hS.row v42) (Nat.succ_pos _)
                refine sst hS rfl rfl Tryz.sizeOf28 rfl rfl rfl rfl ?_; clear hS; intro w hS
                refine nil ?_
                refine ⟨fun h => absurd h (by decide), ?_⟩
                show wpA _ _ _ _ _ _ _ _ _ _
                show wpA _ _ _ _ _ _ _ _ _ _
                refine a_step (i := 11) (is := []) (by kernel_rfl) ⟨?_, trivial⟩
                refine ⟨_, rfl, ?_⟩
                refine sv (fa60_1 h5) ?_
                refine nil ?_
                refine ⟨fun h => absurd h (by decide), ?_⟩
                show wpA _ _ _ _ _ _ _ _ _ _
                show wpA _ _ _ _ _ _ _ _ _ _
                refine a_step (i := 12) (is := []) (by kernel_rfl) ⟨?_, trivial⟩
                refine ⟨_, rfl, ?_⟩
                obtain ⟨gv46, cpv46, rfl, -⟩ := row_some (hS.row v46) (Nat.succ_pos _)
                refine sst hS rfl rfl Tryz.sizeOf58 rfl rfl rfl rfl ?_; clear hS; intro w hS
                refine nil ?_
                refine ⟨fun h => absurd h (by decide), ?_⟩
                show wpA _ _ _ _ _ _ _ _ _ _
                refine a_end (by kernel_rfl) ?_
                exact ⟨_, rfl, _, _, h1, h2, h4, h5, h7, h8, h9, (by rw [List.flatMap_append, ← opnB_app (fun j hj => (hok.opn j hj).2.1), List.flatMap_append]; exact hS.sub (.cons _ (.cons _ (List.Sublist.refl _)))), trivial⟩
              ·
                refine ⟨_, rfl, ?_⟩
                refine sv (fa60_0 h5) ?_
                refine nil ?_
                refine ⟨fun h => absurd h (by decide), ?_⟩
                show wpA _ _ _ _ _ _ _ _ _ _
                show wpA _ _ _ _ _ _ _ _ _ _
                refine a_step (i := 8) (is := []) (by kernel_rfl) ⟨?_, trivial⟩
                refine ⟨_, rfl, ?_⟩
                refine sapp (bytes := 1) (size := 1) (v := bv) (m := 1) hS rfl rfl Tryz.underlying58 ti4 rfl rfl rfl rfl (by decide) (blk_cells (hS.at _)) rfl rfl (by omega) (by omega) ?_; clear hS; intro v46 w hS
                refine nil ?_
                refine ⟨fun _ => (hS.at b5), ?_⟩
                show wpA _ _ _ _ _ _ _ _ _ _
                show wpA _ _ _ _ _ _ _ _ _ _
                refine a_step (i := 10) (is := []) (by kernel_rfl) ⟨?_, trivial⟩
                refine ⟨_, rfl, ?_⟩
                obtain ⟨gv42, cpv42, rfl, -⟩ := row_some (hS.row v42) (Nat.succ_pos _)
                refine sst hS rfl rfl Tryz.sizeOf28 rfl rfl rfl rfl ?_; clear hS; intro w hS
                refine nil ?_
                refine ⟨fun h => absurd h (by decide), ?_⟩
                show wpA _ _ _ _ _ _ _ _ _ _
                show wpA _ _ _ _ _ _ _ _ _ _
                refine a_step (i := 11) (is := []) (by kernel_rfl) ⟨?_, trivial⟩
                refine ⟨_, rfl, ?_⟩
                refine sv (fa60_1 h5) ?_
                refine nil ?_
                refine ⟨fun h => absurd h (by decide), ?_⟩
                show wpA _ _ _ _ _ _ _ _ _ _
                show wpA _ _ _ _ _ _ _ _ _ _
                refine a_step (i := 12) (is := []) (by kernel_rfl) ⟨?_, trivial⟩
                refine ⟨_, rfl, ?_⟩
                obtain ⟨gv46, cpv46, rfl, -⟩ := row_some (hS.row v46) (Nat.succ_pos _)
                refine sst hS rfl rfl Tryz.sizeOf58 rfl rfl rfl rfl ?_; clear hS; intro w hS
                refine nil ?_
                refine ⟨fun h => absurd h (by decide), ?_⟩
                show wpA _ _ _ _ _ _ _ _ _ _
                refine a_end (by kernel_rfl) ?_
                exact ⟨_, rfl, _, _, h1, h2, h4, h5, h7, h8, h9, (by rw [List.flatMap_append, ← opnB_app (fun j hj => (hok.opn j hj).2.1), List.flatMap_append]; exact hS.sub (.cons _ (.cons _ (List.Sublist.refl _)))), trivial⟩
          ·
            refine ⟨_, rfl, ?_⟩
            refine sbslice hS Tryz.underlying58 Tryz.sizeOf4 rfl Tryz.zeroValue4 rfl (.cons rfl rfl .nil) rfl ?_; clear hS; intro b45 w hS
            refine nil ?_
            refine ⟨fun _ => (hS.at b5), ?_⟩
            show wpA _ _ _ _ _ _ _ _ _ _
            show wpA _ _ _ _ _ _ _ _ _ _
            refine a_step (i := 3) (is := []) (by kernel_rfl) ⟨?_, trivial⟩
            refine ⟨_, rfl, ?_⟩
            refine sbslice hS Tryz.underlying28 Tryz.sizeOf29 rfl Tryz.zeroValue29 rfl (.cons rfl rfl .nil) rfl ?_; clear hS; intro b41 w hS
            refine nil ?_
            refine ⟨fun _ => (hS.at b5), ?_⟩
            show wpA _ _ _ _ _ _ _ _ _ _
            show wpA _ _ _ _ _ _ _ _ _ _
            refine a_step (i := 4) (is := []) (by kernel_rfl) ⟨?_, trivial⟩
            refine ⟨_, rfl, ?_⟩
            refine sapp (bytes := 8) (size := 1) (v := rv) (m := 1) hS rfl rfl Tryz.underlying28 ti29 rfl rfl rfl rfl (by decide) (blk_cells (hS.at _)) rfl rfl (by omega) (by omega) ?_; clear hS; intro v42 w hS
            refine nil ?_
            refine ⟨fun _ => (hS.at b5), ?_⟩
            show wpA _ _ _ _ _ _ _ _ _ _
            show wpA _ _ _ _ _ _ _ _ _ _
            refine a_step (i := 8) (is := [9]) (by kernel_rfl) ⟨?_, ?_, trivial⟩
            ·
              refine ⟨_, rfl, ?_⟩
              refine sapp (bytes := 1) (size := 1) (v := bv) (m := 1) hS rfl rfl Tryz.underlying58 ti4 rfl rfl rfl rfl (by decide) (blk_cells (hS.at _)) rfl rfl (by omega) (by omega) ?_; clear hS; intro v46 w hS
              refine nil ?_
              refine ⟨fun _ => (hS.at b5), ?_⟩
              show wpA _ _ _ _ _ _ _ _ _ _
              show wpA _ _ _ _ _ _ _ _ _ _
              refine a_step (i := 9) (is := []) (by kernel_rfl) ⟨?_, trivial⟩
              refine ⟨_, rfl, ?_⟩
              refine sv (fa60_0 h5) ?_
              refine nil ?_
              refine ⟨fun h => absurd h (by decide), ?_⟩
              show wpA _ _ _ _ _ _ _ _ _ _
              show wpA _ _ _ _ _ _ _ _ _ _
              refine a_step (i := 10) (is := []) (by kernel_rfl) ⟨?_, trivial⟩
              refine ⟨_, rfl, ?_⟩
              obtain ⟨gv42, cpv42, rfl, -⟩ := row_some (hS.row v42) (Nat.succ_pos _)
              refine sst hS rfl rfl Tryz.sizeOf28 rfl rfl rfl rfl ?_; clear hS; intro w hS
              refine nil ?_
              refine ⟨fun h => absurd h (by decide), ?_⟩
              show wpA _ _ _ _ _ _ _ _ _ _
              show wpA _ _ _ _ _ _ _ _ _ _
              refine a_step (i := 11) (is := []) (by kernel_rfl) ⟨?_, trivial⟩
              refine ⟨_, rfl, ?_⟩
              refine sv (fa60_1 h5) ?_
              refine nil ?_
              refine ⟨fun h => absurd h (by decide), ?_⟩
              show wpA _ _ _ _ _ _ _ _ _ _
              show wpA _ _ _ _ _ _ _ _ _ _
              refine a_step (i := 12) (is := []) (by kernel_rfl) ⟨?_, trivial⟩
              refine ⟨_, rfl, ?_⟩
              obtain ⟨gv46, cpv46, rfl, -⟩ := row_some (hS.row v46) (Nat.succ_pos _)
              refine sst hS rfl rfl Tryz.sizeOf58 rfl rfl rfl rfl ?_; clear hS; intro w hS
              refine nil ?_
              refine ⟨fun h => absurd h (by decide), ?_⟩
              show wpA _ _ _ _ _ _ _ _ _ _
              refine a_end (by kernel_rfl) ?_
              exact ⟨_, rfl, _, _, h1, h2, h4, h5, h7, h8, h9, (by rw [List.flatMap_append, ← opnB_app (fun j hj => (hok.opn j hj).2.1), List.flatMap_append]; exact hS.sub (.cons _ (.cons _ (List.Sublist.refl _)))), trivial⟩
            ·
              refine ⟨_, rfl, ?_⟩
              refine sv (fa60_0 h5) ?_
              refine nil ?_
              refine ⟨fun h => absurd h (by decide), ?_⟩
              show wpA _ _ _ _ _ _ _ _ _ _
              show wpA _ _ _ _ _ _ _ _ _ _
              refine a_step (i := 8) (is := []) (by kernel_rfl) ⟨?_, trivial⟩
              refine ⟨_, rfl, ?_⟩
              refine sapp (bytes := 1) (size := 1) (v := bv) (m := 1) hS rfl rfl Tryz.underlying58 ti4 rfl rfl rfl rfl (by decide) (blk_cells (hS.at _)) rfl rfl (by omega) (by omega) ?_; clear hS; intro v46 w hS
              refine nil ?_
              refine ⟨fun _ => (hS.at b5), ?_⟩
              show wpA _ _ _ _ _ _ _ _ _ _
              show wpA _ _ _ _ _ _ _ _ _ _
              refine a_step (i := 10) (is := []) (by kernel_rfl) ⟨?_, trivial⟩
              refine ⟨_, rfl, ?_⟩
              obtain ⟨gv42, cpv42, rfl, -⟩ := row_some (hS.row v42) (Nat.succ_pos _)
              refine sst hS rfl rfl Tryz.sizeOf28 rfl rfl rfl rfl ?_; clear hS; intro w hS
              refine nil ?_
              refine ⟨fun h => absurd h (by decide), ?_⟩
              show wpA _ _ _ _ _ _ _ _ _ _
              show wpA _ _ _ _ _ _ _ _ _ _
              refine a_step (i := 11) (is := []) (by kernel_rfl) ⟨?_, trivial⟩
              refine ⟨_, rfl, ?_⟩
              refine sv (fa60_1 h5) ?_
              refine nil ?_
              refine ⟨fun h => absurd h (by decide), ?_⟩
              show wpA _ _ _ _ _ _ _ _ _ _
              show wpA _ _ _ _ _ _ _ _ _ _
              refine a_step (i := 12) (is := []) (by kernel_rfl) ⟨?_, trivial⟩
              refine ⟨_, rfl, ?_⟩
              obtain ⟨gv46, cpv46, rfl, -⟩ := row_some (hS.row v46) (Nat.succ_pos _)
              refine sst hS rfl rfl Tryz.sizeOf58 rfl rfl rfl rfl ?_; clear hS; intro w hS
              refine nil ?_
              refine ⟨fun h => absurd h (by decide), ?_⟩
              show wpA _ _ _ _ _ _ _ _ _ _
              refine a_end (by kernel_rfl) ?_
              exact ⟨_, rfl, _, _, h1, h2, h4, h5, h7, h8, h9, (by rw [List.flatMap_append, ← opnB_app (fun j hj => (hok.opn j hj).2.1), List.flatMap_append]; exact hS.sub (.cons _ (.cons _ (List.Sublist.refl _)))), trivial⟩
        ·
          clear hS; rintro f w ⟨rv, bv, h1, h2, h4, h5, h7, h8, h9, hS, -⟩
          refine seqJ (n := 145) (fun f w => ∃ (nw : Int), f 1 = .slice aa acts.length ca ∧ f 2 = .pointer (some ⟨b2, 0, none⟩) ∧ f 4 = .pointer (some ⟨b4, 0, none⟩) ∧ f 5 = .pointer (some ⟨b5, 0, none⟩) ∧ f 7 = .int .i64 (k : Int) ∧ f 8 = .pointer (some ⟨b8, 0, none⟩) ∧ f 9 = .int .i64 (doF c acts (k : Int) x (plN c acts k).2).1 ∧ StX [] w0 w [blk b8 [.int .i64 x.tm, .int .i64 x.who, .int .i64 x.dw, .int .i64 x.what, .int .i64 x.to, .int .i64 x.subj] 86, rowI rv 29 1 (k + 1) (((plN c acts k).1 ++ [(doF c acts (k : Int) x (plN c acts k).2).1]).flatMap Bx.encI), rowI bv 4 1 (k + 1) ((opnB (k + 1) (plN c acts k).2.opn).flatMap encB), rowI ov 66 5 ((plN c acts k).2.ords).length (((plN c acts k).2.ords).flatMap ordC), rowI kv 3 1 ((plN c acts k).2.hold).length (((plN c acts k).2.hold).flatMap Bx.encI), blk b5 [rv, bv, ov, kv, .int .i64 nw] 60, blk b4 [.slice none 0 0, .slice none 0 0, .slice none 0 0, .slice none 0 0, .int .i64 0] 60, blk b2 [.slice a c.ops.length cap, .slice ak c.keys.length ck, .slice an c.kinds.length cn] 26] ∧ (nw = if (doF c acts (k : Int) x (plN c acts k).2).1 = 200 then (plN c acts k).2.now else x.tm) ∧ True) ?_ ?_
          ·
            refine seq ?_
            refine region ?_
            refine sv (yMove h9) ?_
            refine sv (yNeq rfl rfl) ?_
            refine nil ?_
            show Code.wp _ _ _ _ _
            refine cond rfl (fun c50 => ?_) (fun c50 => ?_)
            ·
              simp only [Bool.and_eq_true, Bool.or_eq_true, Bool.and_eq_false_iff, Bool.or_eq_false_iff, decide_eq_true_eq, decide_eq_false_iff_not, Bool.not_eq_true, Bool.not_eq_false, Bool.not_not, Bool.not_eq_eq_eq_not, Bool.not_true, Bool.not_false, Bool.false_eq_true, Bool.true_eq_false, ne_eq, Decidable.not_not, not_false_eq_true, not_true_eq_false] at c50
              refine region ?_
              refine sv (fa86_0 h8) ?_
              refine sv (yLdB rfl Tryz.isAgg3 (hS.at _) rfl) ?_
              refine sv (fa60_4 h5) ?_
              refine sst hS rfl rfl Tryz.sizeOf3 rfl rfl rfl rfl ?_; clear hS; intro w hS
              refine nil ?_
              exact ⟨_, rfl, _, h1, h2, h4, h5, h7, h8, h9, hS, ((if_neg c50).symm), trivial⟩
            ·
              simp only [Bool.and_eq_true, Bool.or_eq_true, Bool.and_eq_false_iff, Bool.or_eq_false_iff, decide_eq_true_eq, decide_eq_false_iff_not, Bool.not_eq_true, Bool.not_eq_false, Bool.not_not, Bool.not_eq_eq_eq_not, Bool.not_true, Bool.not_false, Bool.false_eq_true, Bool.true_eq_false, ne_eq, Decidable.not_not, not_false_eq_true, not_true_eq_false] at c50
              refine skip ?_
              exact ⟨_, rfl, _, h1, h2, h4, h5, h7, h8, h9, hS, ((if_pos (by simpa using c50)).symm), trivial⟩
          ·
            clear hS; rintro f w ⟨nw, h1, h2, h4, h5, h7, h8, h9, hS, hnw, -⟩
            subst hnw
            refine seq ?_
            refine seq ?_
            refine region ?_
            refine sv (yMove h9) ?_
            refine sv (yNeq rfl rfl) ?_
            refine nil ?_
            show Code.wp _ _ _ _ _
            refine cond rfl (fun c55 => ?_) (fun c55 => ?_)
            ·
              simp only [Bool.and_eq_true, Bool.or_eq_true, Bool.and_eq_false_iff, Bool.or_eq_false_iff, decide_eq_true_eq, decide_eq_false_iff_not, Bool.not_eq_true, Bool.not_eq_false, Bool.not_not, Bool.not_eq_eq_eq_not, Bool.not_true, Bool.not_false, Bool.false_eq_true, Bool.true_eq_false, ne_eq, Decidable.not_not, not_false_eq_true, not_true_eq_false] at c55
              have hnow9 : True := trivial
              refine exit ?_
              have hs2 : (doF c acts (k : Int) x (plN c acts k).2).2 = if (doF c acts (k : Int) x (plN c acts k).2).1 = 200 then (plN c acts k).2 else { (plN c acts k).2 with now := x.tm } := by
                by_cases h9 : (doF c acts (k : Int) x (plN c acts k).2).1 = 200
                · rw [if_pos h9]; exact doF_late hx9.dw hsec h9
                · rw [if_neg h9]; exact doF_bad hx9.dw hsec h9 c55
              exact ⟨_, rfl, rv, bv, ov, kv, h1, h2, h4, h5, h7, (by rw [hpl]; dsimp only; rw [hs2]; by_cases h9 : (doF c acts (k : Int) x (plN c acts k).2).1 = 200; rw [if_pos h9] at hS ⊢; exact hS.sub (.cons _ (List.Sublist.refl _)); rw [if_neg h9] at hS ⊢; exact hS.sub (.cons _ (List.Sublist.refl _))), (by rw [hpl]; exact rmOk_do hok hx9 hxq hall), (by rw [hpl]; exact opn_nodup hok hx9.dw hsec hnd), trivial⟩
            ·
              simp only [Bool.and_eq_true, Bool.or_eq_true, Bool.and_eq_false_iff, Bool.or_eq_false_iff, decide_eq_true_eq, decide_eq_false_iff_not, Bool.not_eq_true, Bool.not_eq_false, Bool.not_not, Bool.not_eq_eq_eq_not, Bool.not_true, Bool.not_false, Bool.false_eq_true, Bool.true_eq_false, ne_eq, Decidable.not_not, not_false_eq_true, not_true_eq_false] at c55
              have hv0 : (doF c acts (k : Int) x (plN c acts k).2).1 = 0 := by simpa using c55
              rw [if_neg (by rw [hv0]; decide)] at hS
              refine skip ?_
              show Code.wp _ _ _ _ _
              refine seq ?_
              refine region ?_
              refine sv (fa86_2 h8) ?_
              refine sv (yLdB rfl Tryz.isAgg3 (hS.at _) rfl) ?_
              refine nil ?_
              show Code.wp _ _ _ _ _
              refine block ?_
              refine seq ?_
              refine region ?_
              refine sv (yEql rfl rfl) ?_
              refine sv (yAsg rfl) ?_
              refine nil ?_
              show Code.wp _ _ _ _ _
              refine cond rfl (fun c58 => ?_) (fun c58 => ?_)
              ·
                simp only [Bool.and_eq_true, Bool.or_eq_true, Bool.and_eq_false_iff, Bool.or_eq_false_iff, decide_eq_true_eq, decide_eq_false_iff_not, Bool.not_eq_true, Bool.not_eq_false, Bool.not_not, Bool.not_eq_eq_eq_not, Bool.not_true, Bool.not_false, Bool.false_eq_true, Bool.true_eq_false, ne_eq, Decidable.not_not, not_false_eq_true, not_true_eq_false] at c58
                have hwk := hx9.what
                rw [show manyA c k x = c.keys.length from (if_neg (by omega)).trans (if_neg (by omega)), ← hok.len] at hwk
                obtain ⟨gk, chk, rfl, -⟩ := row_some (hS.row kv) (by omega)
                refine region ?_
                refine sv (fa60_3 h5) ?_
                refine sv (yLdB rfl Tryz.isAgg37 (hS.at _) rfl) ?_
                refine sv (fa86_3 h8) ?_
                refine sv (yLdB rfl Tryz.isAgg3 (hS.at _) rfl) ?_
                refine sv (fa86_1 h8) ?_
                refine sv (yLdB rfl Tryz.isAgg3 (hS.at _) rfl) ?_
                refine sv (yIxa rfl rfl rfl Tryz.runUnderlying37 Tryz.sizeOf3 (by omega) (by omega)) ?_
                refine srst (m := (plN c acts k).2.hold.length) (cap := chk) (sz := 1) (vs := [.int .i64 x.who]) hS rfl rfl Tryz.sizeOf3 rfl rfl (by omega) rfl ?_; clear hS; intro w hS; rw [flatI_set (by omega)] at hS
                refine nil ?_
                have hs2 := (doF_good (i := (k : Int)) hx9.dw hsec hv0).trans (doR_take c58)
                exact ⟨_, rfl, rv, bv, ov, (.slice (some ⟨gk, 0, none⟩) (plN c acts k).2.hold.length chk), h1, h2, h4, h5, h7, (by rw [hpl]; dsimp only; rw [hs2]; dsimp only; rw [List.length_set]; exact hS.sub (.cons _ (List.Sublist.refl _))), (by rw [hpl]; exact rmOk_do hok hx9 hxq hall), (by rw [hpl]; exact opn_nodup hok hx9.dw hsec hnd), trivial⟩
              ·
                simp only [Bool.and_eq_true, Bool.or_eq_true, Bool.and_eq_false_iff, Bool.or_eq_false_iff, decide_eq_true_eq, decide_eq_false_iff_not, Bool.not_eq_true, Bool.not_eq_false, Bool.not_not, Bool.not_eq_eq_eq_not, Bool.not_true, Bool.not_false, Bool.false_eq_true, Bool.true_eq_false, ne_eq, Decidable.not_not, not_false_eq_true, not_true_eq_false] at c58
                refine seq ?_
                refine region ?_
                refine sv (yEql rfl rfl) ?_
                refine sv (yAsg rfl) ?_
                refine nil ?_
                show Code.wp _ _ _ _ _
                refine cond rfl (fun c67 => ?_) (fun c67 => ?_)
                ·
                  simp only [Bool.and_eq_true, Bool.or_eq_true, Bool.and_eq_false_iff, Bool.or_eq_false_iff, decide_eq_true_eq, decide_eq_false_iff_not, Bool.not_eq_true, Bool.not_eq_false, Bool.not_not, Bool.not_eq_eq_eq_not, Bool.not_true, Bool.not_false, Bool.false_eq_true, Bool.true_eq_false, ne_eq, Decidable.not_not, not_false_eq_true, not_true_eq_false] at c67
                  have hwk := hx9.what
                  rw [show manyA c k x = c.keys.length from (if_neg (by omega)).trans (if_neg (by omega)), ← hok.len] at hwk
                  obtain ⟨gk, chk, rfl, -⟩ := row_some (hS.row kv) (by omega)
                  refine region ?_
                  refine sv (fa60_3 h5) ?_
                  refine sv (yLdB rfl Tryz.isAgg37 (hS.at _) rfl) ?_
                  refine sv (fa86_3 h8) ?_
                  refine sv (yLdB rfl Tryz.isAgg3 (hS.at _) rfl) ?_
                  refine sv (fa86_4 h8) ?_
                  refine sv (yLdB rfl Tryz.isAgg3 (hS.at _) rfl) ?_
                  refine sv (yIxa rfl rfl rfl Tryz.runUnderlying37 Tryz.sizeOf3 (by omega) (by omega)) ?_
                  refine srst (m := (plN c acts k).2.hold.length) (cap := chk) (sz := 1) (vs := [.int .i64 x.to]) hS rfl rfl Tryz.sizeOf3 rfl rfl (by omega) rfl ?_; clear hS; intro w hS; rw [flatI_set (by omega)] at hS
                  refine nil ?_
                  have hs2 := (doF_good (i := (k : Int)) hx9.dw hsec hv0).trans (doR_give c67)
                  exact ⟨_, rfl, rv, bv, ov, (.slice (some ⟨gk, 0, none⟩) (plN c acts k).2.hold.length chk), h1, h2, h4, h5, h7, (by rw [hpl]; dsimp only; rw [hs2]; dsimp only; rw [List.length_set]; exact hS.sub (.cons _ (List.Sublist.refl _))), (by rw [hpl]; exact rmOk_do hok hx9 hxq hall), (by rw [hpl]; exact opn_nodup hok hx9.dw hsec hnd), trivial⟩
                ·
                  simp only [Bool.and_eq_true, Bool.or_eq_true, Bool.and_eq_false_iff, Bool.or_eq_false_iff, decide_eq_true_eq, decide_eq_false_iff_not, Bool.not_eq_true, Bool.not_eq_false, Bool.not_not, Bool.not_eq_eq_eq_not, Bool.not_true, Bool.not_false, Bool.false_eq_true, Bool.true_eq_false, ne_eq, Decidable.not_not, not_false_eq_true, not_true_eq_false] at c67
                  refine seq ?_
                  refine region ?_
                  refine sv (yEql rfl rfl) ?_
                  refine sv (yAsg rfl) ?_
                  refine nil ?_
                  show Code.wp _ _ _ _ _
                  refine cond rfl (fun c76 => ?_) (fun c76 => ?_)
                  ·
                    simp only [Bool.and_eq_true, Bool.or_eq_true, Bool.and_eq_false_iff, Bool.or_eq_false_iff, decide_eq_true_eq, decide_eq_false_iff_not, Bool.not_eq_true, Bool.not_eq_false, Bool.not_not, Bool.not_eq_eq_eq_not, Bool.not_true, Bool.not_false, Bool.false_eq_true, Bool.true_eq_false, ne_eq, Decidable.not_not, not_false_eq_true, not_true_eq_false] at c76
                    have hwk := hx9.what
                    rw [show manyA c k x = c.keys.length from (if_neg (by omega)).trans (if_neg (by omega)), ← hok.len] at hwk
                    obtain ⟨gk, chk, rfl, -⟩ := row_some (hS.row kv) (by omega)
                    refine region ?_
                    refine sv (fa60_3 h5) ?_
                    refine sv (yLdB rfl Tryz.isAgg37 (hS.at _) rfl) ?_
                    refine sv (fa86_3 h8) ?_
                    refine sv (yLdB rfl Tryz.isAgg3 (hS.at _) rfl) ?_
                    refine sv (yIxa rfl rfl rfl Tryz.runUnderlying37 Tryz.sizeOf3 (by omega) (by omega)) ?_
                    refine srst (m := (plN c acts k).2.hold.length) (cap := chk) (sz := 1) (vs := [.int .i64 (-1)]) hS rfl rfl Tryz.sizeOf3 rfl rfl (by omega) rfl ?_; clear hS; intro w hS; rw [flatI_set (by omega)] at hS
                    refine nil ?_
                    have hs2 := (doF_good (i := (k : Int)) hx9.dw hsec hv0).trans (doR_put c76)
                    exact ⟨_, rfl, rv, bv, ov, (.slice (some ⟨gk, 0, none⟩) (plN c acts k).2.hold.length chk), h1, h2, h4, h5, h7, (by rw [hpl]; dsimp only; rw [hs2]; dsimp only; rw [List.length_set]; exact hS.sub (.cons _ (List.Sublist.refl _))), (by rw [hpl]; exact rmOk_do hok hx9 hxq hall), (by rw [hpl]; exact opn_nodup hok hx9.dw hsec hnd), trivial⟩
                  ·
                    simp only [Bool.and_eq_true, Bool.or_eq_true, Bool.and_eq_false_iff, Bool.or_eq_false_iff, decide_eq_true_eq, decide_eq_false_iff_not, Bool.not_eq_true, Bool.not_eq_false, Bool.not_not, Bool.not_eq_eq_eq_not, Bool.not_true, Bool.not_false, Bool.false_eq_true, Bool.true_eq_false, ne_eq, Decidable.not_not, not_false_eq_true, not_true_eq_false] at c76
                    refine seq ?_
                    refine region ?_
                    refine sv (yEql rfl rfl) ?_
                    refine sv (yAsg rfl) ?_
                    refine nil ?_
                    show Code.wp _ _ _ _ _
                    refine cond rfl (fun c83 => ?_) (fun c83 => ?_)
                    ·
                      simp only [Bool.and_eq_true, Bool.or_eq_true, Bool.and_eq_false_iff, Bool.or_eq_false_iff, decide_eq_true_eq, decide_eq_false_iff_not, Bool.not_eq_true, Bool.not_eq_false, Bool.not_not, Bool.not_eq_eq_eq_not, Bool.not_true, Bool.not_false, Bool.false_eq_true, Bool.true_eq_false, ne_eq, Decidable.not_not, not_false_eq_true, not_true_eq_false] at c83
                      have hwk := hx9.what
                      rw [show manyA c k x = c.kinds.length from if_pos c83] at hwk
                      obtain ⟨t, ht⟩ := Int.eq_ofNat_of_zero_le hwk.1
                      have ht2 : t < c.kinds.length := by omega
                      obtain ⟨z, hxt, hdt⟩ := drop_of (l := c.kinds) (k := t) (by omega)
                      obtain ⟨bt, ot, cst, hat, hlent, hcst, hRt⟩ := heln (t) (by omega)
                      obtain rfl : z = c.kinds[t] := (List.getElem?_eq_some_iff.1 hxt).2.symm
                      generalize c.kinds[t] = z at hxt hdt hRt
                      obtain ⟨xvt, rfl, hnmt, hgrt, hset, hwit, hskt, hrzt⟩ := hRt
                      obtain ⟨akt, ckt, rfl, -⟩ := id hskt
                      have hzz := kndAt_hit ht hxt
                      refine seq ?_
                      refine region ?_
                      refine sv (fa26_2 h2) ?_
                      refine sv (yLdB rfl Tryz.isAgg24 (hS.at _) rfl) ?_
                      refine sv (fa86_3 h8) ?_
                      refine sv (yLdB rfl Tryz.isAgg3 (hS.at _) rfl) ?_
                      refine sv (yIxa rfl hat (rfl.trans (congrArg (Value.int .i64) ht)) Tryz.runUnderlying24 Tryz.sizeOf92 (by omega) (by omega)) ?_
                      refine sv (fa92_2 rfl) ?_
                      refine sv (yLd rfl Tryz.isAgg3 ((hcst.ext hS.ext).at (j := 2) rfl)) ?_
                      refine sv (yEql rfl rfl) ?_
                      refine nil ?_
                      show Code.wp _ _ _ _ _
                      refine cond rfl (fun c92 => ?_) (fun c92 => ?_)
                      ·
                        simp only [Bool.and_eq_true, Bool.or_eq_true, Bool.and_eq_false_iff, Bool.or_eq_false_iff, decide_eq_true_eq, decide_eq_false_iff_not, Bool.not_eq_true, Bool.not_eq_false, Bool.not_not, Bool.not_eq_eq_eq_not, Bool.not_true, Bool.not_false, Bool.false_eq_true, Bool.true_eq_false, ne_eq, Decidable.not_not, not_false_eq_true, not_true_eq_false] at c92
                        refine region ?_
                        refine sv (fa60_2 h5) ?_
                        refine sv (yLdB rfl Tryz.isAgg33 (hS.at _) rfl) ?_
                        refine sv (yMove h7) ?_
                        refine sv (fa86_3 h8) ?_
                        refine sv (yLdB rfl Tryz.isAgg3 (hS.at _) rfl) ?_
                        refine sv (fa86_5 h8) ?_
                        refine sv (yLdB rfl Tryz.isAgg3 (hS.at _) rfl) ?_
                        refine sv (fa86_0 h8) ?_
                        refine sv (yLdB rfl Tryz.isAgg3 (hS.at _) rfl) ?_
                        refine sv (yBuild Tryz.zeroValue66 rfl pl66 (.cons rfl rfl (.cons rfl rfl (.cons rfl rfl (.cons rfl rfl (.cons rfl rfl .nil))))) rfl) ?_
                        refine sbslice hS Tryz.underlying33 Tryz.sizeOf66 rfl Tryz.zeroValue66 rfl (.cons rfl rfl .nil) rfl ?_; clear hS; intro b103 w hS
                        refine sapp (bytes := 40) (size := 5) (v := ov) (m := 1) hS rfl rfl Tryz.underlying33 ti66 rfl rfl rfl rfl (by decide) (blk_cells (hS.at _)) rfl rfl (by have := hok.nord; omega) (by have := hok.nord; omega) ?_; clear hS; intro v104 w hS
                        refine sv (fa60_2 h5) ?_
                        obtain ⟨gv104, cpv104, rfl, -⟩ := row_some (hS.row v104) (Nat.succ_pos _)
                        refine sst hS rfl rfl Tryz.sizeOf33 rfl rfl rfl rfl ?_; clear hS; intro w hS
                        refine nil ?_
                        have hs2 := (doF_good (i := (k : Int)) hx9.dw hsec hv0).trans (doR_ord c83 (by rw [hzz]; exact c92))
                        exact ⟨_, rfl, rv, bv, _, kv, h1, h2, h4, h5, h7, (by rw [hpl]; dsimp only; rw [hs2]; dsimp only; rw [← ordRow]; exact hS.sub (.cons _ (.cons _ (List.Sublist.refl _)))), (by rw [hpl]; exact rmOk_do hok hx9 hxq hall), (by rw [hpl]; exact opn_nodup hok hx9.dw hsec hnd), trivial⟩
                      ·
                        simp only [Bool.and_eq_true, Bool.or_eq_true, Bool.and_eq_false_iff, Bool.or_eq_false_iff, decide_eq_true_eq, decide_eq_false_iff_not, Bool.not_eq_true, Bool.not_eq_false, Bool.not_not, Bool.not_eq_eq_eq_not, Bool.not_true, Bool.not_false, Bool.false_eq_true, Bool.true_eq_false, ne_eq, Decidable.not_not, not_false_eq_true, not_true_eq_false] at c92
                        obtain ⟨gb, chb, rfl, -⟩ := row_some (hS.row bv) (by omega)
                        refine region ?_
                        refine sv (fa60_1 h5) ?_
                        refine sv (yLdB rfl Tryz.isAgg58 (hS.at _) rfl) ?_
                        refine sv (yMove h7) ?_
                        refine sv (yIxa rfl rfl rfl Tryz.runUnderlying58 Tryz.sizeOf4 (by omega) (by omega)) ?_
                        refine srst (m := k + 1) (cap := chb) (sz := 1) (vs := [.bool true]) hS rfl rfl Tryz.sizeOf4 rfl rfl (by omega) rfl ?_; clear hS; intro w hS; rw [flatB_set (by rw [opnB_len]; omega)] at hS
                        refine nil ?_
                        have hs2 := (doF_good (i := (k : Int)) hx9.dw hsec hv0).trans (doR_open c83 (by rw [hzz]; exact c92))
                        exact ⟨_, rfl, rv, (.slice (some ⟨gb, 0, none⟩) (k + 1) chb), ov, kv, h1, h2, h4, h5, h7, (by rw [hpl]; dsimp only; rw [hs2]; dsimp only; rw [← opnB_on]; exact hS.sub (.cons _ (List.Sublist.refl _))), (by rw [hpl]; exact rmOk_do hok hx9 hxq hall), (by rw [hpl]; exact opn_nodup hok hx9.dw hsec hnd), trivial⟩
                    ·
                      simp only [Bool.and_eq_true, Bool.or_eq_true, Bool.and_eq_false_iff, Bool.or_eq_false_iff, decide_eq_true_eq, decide_eq_false_iff_not, Bool.not_eq_true, Bool.not_eq_false, Bool.not_not, Bool.not_eq_eq_eq_not, Bool.not_true, Bool.not_false, Bool.false_eq_true, Bool.true_eq_false, ne_eq, Decidable.not_not, not_false_eq_true, not_true_eq_false] at c83
                      refine seq ?_
                      refine region ?_
                      refine sv (yEql rfl rfl) ?_
                      refine sv (yAsg rfl) ?_
                      refine nil ?_
                      show Code.wp _ _ _ _ _
                      refine cond rfl (fun c110 => ?_) (fun c110 => ?_)
                      ·
                        simp only [Bool.and_eq_true, Bool.or_eq_true, Bool.and_eq_false_iff, Bool.or_eq_false_iff, decide_eq_true_eq, decide_eq_false_iff_not, Bool.not_eq_true, Bool.not_eq_false, Bool.not_not, Bool.not_eq_eq_eq_not, Bool.not_true, Bool.not_false, Bool.false_eq_true, Bool.true_eq_false, ne_eq, Decidable.not_not, not_false_eq_true, not_true_eq_false] at c110
                        have hwk := hx9.what
                        rw [show manyA c k x = (k : Int) from (if_neg (by omega)).trans (if_pos (by omega))] at hwk
                        obtain ⟨m, hm⟩ := Int.eq_ofNat_of_zero_le hwk.1
                        have hmt : x.what.toNat = m := by omega
                        obtain ⟨gb, chb, rfl, -⟩ := row_some (hS.row bv) (by omega)
                        have hk2 : m < acts.length := by omega
                        obtain ⟨z, hxz, hdz⟩ := drop_of (l := acts) (k := m) (by omega)
                        obtain ⟨bz, oz, csz, haz, hlenz, hcsz, hRz⟩ := hela (m) (by omega)
                        obtain rfl : z = acts[m] := (List.getElem?_eq_some_iff.1 hxz).2.symm
                        generalize acts[m] = z at hxz hdz hRz
                        obtain ⟨rfl, hiz⟩ := hRz
                        replace hcsz : Cells w0 bz (oz + m * 6) [.int .i64 z.tm, .int .i64 z.who, .int .i64 z.dw, .int .i64 z.what, .int .i64 z.to, .int .i64 z.subj] := hcsz
                        have hz9 := actAt_hit hm hxz
                        refine seq ?_
                        refine region ?_
                        refine sv (yMove h1) ?_
                        refine sv (fa86_3 h8) ?_
                        refine sv (yLdB rfl Tryz.isAgg3 (hS.at _) rfl) ?_
                        refine sv (yIxa rfl haz (rfl.trans (congrArg (Value.int .i64) hm)) Tryz.runUnderlying27 Tryz.sizeOf86 (by omega) (by omega)) ?_
                        refine sv (yLdA rfl Tryz.isAgg86 Tryz.sizeOf86 (hcsz.ext hS.ext) rfl) ?_
                        refine salloc hS Tryz.zeroValue86 rfl ?_; clear hS; intro b10 w hS
                        refine sst hS rfl rfl Tryz.sizeOf86 rfl rfl rfl rfl ?_; clear hS; intro w hS
                        refine nil ?_
                        show Code.wp _ _ _ _ _
                        refine seq ?_
                        refine region ?_
                        refine sv (fa60_1 h5) ?_
                        refine sv (yLdB rfl Tryz.isAgg58 (hS.at _) rfl) ?_
                        refine sv (fa86_3 h8) ?_
                        refine sv (yLdB rfl Tryz.isAgg3 (hS.at _) rfl) ?_
                        refine sv (yIxa rfl rfl rfl Tryz.runUnderlying58 Tryz.sizeOf4 (by omega) (by omega)) ?_
                        refine srst (m := k + 1) (cap := chb) (sz := 1) (vs := [.bool false]) hS rfl rfl Tryz.sizeOf4 rfl rfl (by omega) rfl ?_; clear hS; intro w hS; rw [flatB_set (by rw [opnB_len]; omega)] at hS
                        refine nil ?_
                        show Code.wp _ _ _ _ _
                        refine region ?_
                        refine sv (fa60_2 h5) ?_
                        refine sv (yLdB rfl Tryz.isAgg33 (hS.at _) rfl) ?_
                        refine sv (fa86_3 h8) ?_
                        refine sv (yLdB rfl Tryz.isAgg3 (hS.at _) rfl) ?_
                        refine sv (yMove h7) ?_
                        refine sv (fa86_3 rfl) ?_
                        refine sv (yLdB rfl Tryz.isAgg3 (hS.at _) rfl) ?_
                        refine sv (fa86_5 rfl) ?_
                        refine sv (yLdB rfl Tryz.isAgg3 (hS.at _) rfl) ?_
                        refine sv (fa86_0 h8) ?_
                        refine sv (yLdB rfl Tryz.isAgg3 (hS.at _) rfl) ?_
                        refine sv (yBuild Tryz.zeroValue66 rfl pl66 (.cons rfl rfl (.cons rfl rfl (.cons rfl rfl (.cons rfl rfl (.cons rfl rfl .nil))))) rfl) ?_
                        refine sbslice hS Tryz.underlying33 Tryz.sizeOf66 rfl Tryz.zeroValue66 rfl (.cons rfl rfl .nil) rfl ?_; clear hS; intro b134 w hS
                        refine sapp (bytes := 40) (size := 5) (v := ov) (m := 1) hS rfl rfl Tryz.underlying33 ti66 rfl rfl rfl rfl (by decide) (blk_cells (hS.at _)) rfl rfl (by have := hok.nord; omega) (by have := hok.nord; omega) ?_; clear hS; intro v135 w hS
                        refine sv (fa60_2 h5) ?_
                        obtain ⟨gv135, cpv135, rfl, -⟩ := row_some (hS.row v135) (Nat.succ_pos _)
                        refine sst hS rfl rfl Tryz.sizeOf33 rfl rfl rfl rfl ?_; clear hS; intro w hS
                        refine nil ?_
                        have hs2 := (doF_good (i := (k : Int)) hx9.dw hsec hv0).trans (doR_conf c110)
                        exact ⟨_, rfl, rv, (.slice (some ⟨gb, 0, none⟩) (k + 1) chb), _, kv, h1, h2, h4, h5, h7, (by rw [hpl]; dsimp only; rw [hs2]; dsimp only; rw [hz9, ← ordRow, show (plN c acts k).2.opn.erase x.what = (plN c acts k).2.opn.erase ((x.what.toNat : Nat) : Int) by rw [hmt, hm], ← opnB_off hnd]; exact hS.sub (.cons _ (.cons _ (.cons _ (List.Sublist.refl _))))), (by rw [hpl]; exact rmOk_do hok hx9 hxq hall), (by rw [hpl]; exact opn_nodup hok hx9.dw hsec hnd), trivial⟩
                      ·
                        simp only [Bool.and_eq_true, Bool.or_eq_true, Bool.and_eq_false_iff, Bool.or_eq_false_iff, decide_eq_true_eq, decide_eq_false_iff_not, Bool.not_eq_true, Bool.not_eq_false, Bool.not_not, Bool.not_eq_eq_eq_not, Bool.not_true, Bool.not_false, Bool.false_eq_true, Bool.true_eq_false, ne_eq, Decidable.not_not, not_false_eq_true, not_true_eq_false] at c110
                        refine seq ?_
                        refine region ?_
                        refine sv (yEql rfl rfl) ?_
                        refine sv (yAsg rfl) ?_
                        refine nil ?_
                        show Code.wp _ _ _ _ _
                        refine cond rfl (fun c137 => ?_) (fun c137 => ?_)
                        ·
                          simp only [Bool.and_eq_true, Bool.or_eq_true, Bool.and_eq_false_iff, Bool.or_eq_false_iff, decide_eq_true_eq, decide_eq_false_iff_not, Bool.not_eq_true, Bool.not_eq_false, Bool.not_not, Bool.not_eq_eq_eq_not, Bool.not_true, Bool.not_false, Bool.false_eq_true, Bool.true_eq_false, ne_eq, Decidable.not_not, not_false_eq_true, not_true_eq_false] at c137
                          have hwk := hx9.what
                          rw [show manyA c k x = (k : Int) from (if_neg (by omega)).trans (if_pos (by omega))] at hwk
                          obtain ⟨m, hm⟩ := Int.eq_ofNat_of_zero_le hwk.1
                          have hmt : x.what.toNat = m := by omega
                          obtain ⟨gb, chb, rfl, -⟩ := row_some (hS.row bv) (by omega)
                          refine region ?_
                          refine sv (fa60_1 h5) ?_
                          refine sv (yLdB rfl Tryz.isAgg58 (hS.at _) rfl) ?_
                          refine sv (fa86_3 h8) ?_
                          refine sv (yLdB rfl Tryz.isAgg3 (hS.at _) rfl) ?_
                          refine sv (yIxa rfl rfl rfl Tryz.runUnderlying58 Tryz.sizeOf4 (by omega) (by omega)) ?_
                          refine srst (m := k + 1) (cap := chb) (sz := 1) (vs := [.bool false]) hS rfl rfl Tryz.sizeOf4 rfl rfl (by omega) rfl ?_; clear hS; intro w hS; rw [flatB_set (by rw [opnB_len]; omega)] at hS
                          refine nil ?_
                          have hs2 := (doF_good (i := (k : Int)) hx9.dw hsec hv0).trans (doR_canc c137)
                          exact ⟨_, rfl, rv, (.slice (some ⟨gb, 0, none⟩) (k + 1) chb), ov, kv, h1, h2, h4, h5, h7, (by rw [hpl]; dsimp only; rw [hs2]; dsimp only; rw [show (plN c acts k).2.opn.erase x.what = (plN c acts k).2.opn.erase ((x.what.toNat : Nat) : Int) by rw [hmt, hm], ← opnB_off hnd]; exact hS.sub (.cons _ (List.Sublist.refl _))), (by rw [hpl]; exact rmOk_do hok hx9 hxq hall), (by rw [hpl]; exact opn_nodup hok hx9.dw hsec hnd), trivial⟩
                        ·
                          simp only [Bool.and_eq_true, Bool.or_eq_true, Bool.and_eq_false_iff, Bool.or_eq_false_iff, decide_eq_true_eq, decide_eq_false_iff_not, Bool.not_eq_true, Bool.not_eq_false, Bool.not_not, Bool.not_eq_eq_eq_not, Bool.not_true, Bool.not_false, Bool.false_eq_true, Bool.true_eq_false, ne_eq, Decidable.not_not, not_false_eq_true, not_true_eq_false] at c137
                          exfalso; have := hx9.dw; omega
      ·
        clear hS; rintro f w ⟨rv, bv, ov, kv, h1, h2, h4, h5, h7, hS, hok2, hnd2, -⟩
        refine region ?_
        refine sv (yMove h7) ?_
        refine sv (yAdd rfl rfl ⟨by omega, by omega⟩) ?_
        refine sv (yAsg rfl) ?_
        refine nil ?_
        exact ⟨_, _, rfl, ⟨k + 1, rv, bv, ov, kv, h1, h2, h4, h5, rfl, hS, (by omega), (hok2), (hnd2), rfl⟩, by omega⟩
    ·
      simp only [Bool.and_eq_true, Bool.or_eq_true, Bool.and_eq_false_iff, Bool.or_eq_false_iff, decide_eq_true_eq, decide_eq_false_iff_not, Bool.not_eq_true, Bool.not_eq_false, Bool.not_not, Bool.not_eq_eq_eq_not, Bool.not_true, Bool.not_false, Bool.false_eq_true, Bool.true_eq_false, ne_eq, Decidable.not_not, not_false_eq_true, not_true_eq_false] at c26
      refine exit ?_
      show Code.wp _ _ _ _ _
      refine seq ?_
      refine region ?_
      obtain ⟨_, _, rfl⟩ := row_shape (hS.row rv)
      obtain ⟨_, _, rfl⟩ := row_shape (hS.row bv)
      obtain ⟨_, _, rfl⟩ := row_shape (hS.row ov)
      obtain ⟨_, _, rfl⟩ := row_shape (hS.row kv)
      refine sv (yLdBA h5 Tryz.isAgg60 Tryz.sizeOf60 (hS.at _) rfl rfl) ?_
      refine sst hS h4 rfl Tryz.sizeOf60 rfl rfl rfl rfl ?_; clear hS; intro w hS
      refine nil ?_
      show Code.wp _ _ _ _ _
      refine wp_ret ?_
      refine retQ (resV1 rfl (rc h4 Tryz.isAgg60 Tryz.sizeOf60 (hS.at _) rfl rfl)) ?_
      obtain rfl : k = acts.length := by omega
      exact ⟨_, _, _, _, rfl, hS.sub (.cons_cons _ (.cons_cons _ (.cons_cons _ (.cons_cons _ (List.nil_sublist _)))))⟩
end Go.Proofs.YtghgnofilbnbaaaGreat
/- part Cz6 -/
namespace Go.Proofs.YtghgnofilbnbaaaGreat
open Go Bx
/-- barrage/barrageref10.Play -/
theorem c_rPlay {c : Crew} {cs : List Value} {acts : List Acn} {av : Value} {w0 : World} (h : RCrew w0 cs c) (ha : Sl w0 6 RAct av acts) : CE Tryz.prog 6 #[.agg cs.toArray, av] w0 (fun u w' => ∃ lv, u = .tuple #[lv, .int .i64 (playE c acts)] ∧ St w0 w' [rowI lv 29 1 (playL c acts).length ((playL c acts).flatMap Bx.encI)]) := by
  obtain ⟨ov, kv, nv, rfl, hso, hsk, hsn, hrm⟩ := id h
  obtain ⟨a, cap, rfl, hcap, hmx, hel⟩ := id hso
  refine enter Tryz.func6 rfl Tryz.ntmps6 rfl ?_
  have hS := St.start w0
  refine seq ?_
  refine region ?_
  refine sbox hS rfl rfl ?_; clear hS; intro b2 w hS
  refine sv (yAsg rfl) ?_
  refine sv (yAsg rfl) ?_
  refine nil ?_
  show Code.wp _ _ _ _ _
  refine seq ?_
  refine region ?_
  refine sv (yLdBA rfl Tryz.isAgg26 Tryz.sizeOf26 (hS.at _) rfl rfl) ?_
  refine sv (yMove rfl) ?_
  refine scall Tryz.call18 (.cons rfl (.cons rfl .nil)) (c_rvalid (h.ext hS.ext) (ha.ext RAct.stays hS.ext)) ?_
  rintro _ w ⟨rfl, hE⟩; replace hS := hS.step hE; clear hE
  refine sv (yAsg rfl) ?_
  refine nil ?_
  show Code.wp _ _ _ _ _
  refine seq ?_
  refine seq ?_
  refine region ?_
  refine sv (yMove rfl) ?_
  refine sv (yNeq rfl rfl) ?_
  refine nil ?_
  show Code.wp _ _ _ _ _
  refine cond rfl (fun c11 => ?_) (fun c11 => ?_)
  ·
    simp only [Bool.and_eq_true, Bool.or_eq_true, Bool.and_eq_false_iff, Bool.or_eq_false_iff, decide_eq_true_eq, decide_eq_false_iff_not, Bool.not_eq_true, Bool.not_eq_false, Bool.not_not, Bool.not_eq_eq_eq_not, Bool.not_true, Bool.not_false, Bool.false_eq_true, Bool.true_eq_false, ne_eq, Decidable.not_not, not_false_eq_true, not_true_eq_false] at c11
    have h0 : playE c acts ≠ 0 := c11
    refine seq ?_
    refine region ?_
    refine sv (yMove rfl) ?_
    refine sv (yAsg rfl) ?_
    refine sv (yAsg rfl) ?_
    refine nil ?_
    show Code.wp _ _ _ _ _
    refine wp_ret (thenR ?_)
    refine retQ (res2 rfl rfl rfl) ?_
    exact ⟨_, rfl, by rw [playL_bad h0]; exact (hS.nilrow 29 1).sub (.cons_cons _ (List.nil_sublist _))⟩
  ·
    simp only [Bool.and_eq_true, Bool.or_eq_true, Bool.and_eq_false_iff, Bool.or_eq_false_iff, decide_eq_true_eq, decide_eq_false_iff_not, Bool.not_eq_true, Bool.not_eq_false, Bool.not_not, Bool.not_eq_eq_eq_not, Bool.not_true, Bool.not_false, Bool.false_eq_true, Bool.true_eq_false, ne_eq, Decidable.not_not, not_false_eq_true, not_true_eq_false] at c11
    have h0 : playE c acts = 0 := by simpa using c11
    obtain ⟨hc9, hn60, hall9⟩ := play_ok h0
    refine skip ?_
    show Code.wp _ _ _ _ _
    refine seq ?_
    refine region ?_
    refine sv (yLdBA rfl Tryz.isAgg26 Tryz.sizeOf26 (hS.at _) rfl rfl) ?_
    refine sv (yMove rfl) ?_
    refine scall Tryz.call19 (.cons rfl (.cons rfl .nil)) (c_played (h.ext hS.ext) hc9 (ha.ext RAct.stays hS.ext) hall9 hn60) ?_
    rintro _ w ⟨rv, bv, ov, kv, rfl, hM⟩; replace hS := hS.call hM; clear hM
    simp only [List.cons_append, List.nil_append] at hS
    refine sv (yFld rfl Tryz.underlying60 rfl Tryz.isAgg28 rfl) ?_
    refine sv (yAsg rfl) ?_
    refine sv (yAsg rfl) ?_
    refine nil ?_
    show Code.wp _ _ _ _ _
    refine wp_ret ?_
    refine retQ (res2 rfl rfl rfl) ?_
    exact ⟨_, (by rw [h0]; try rfl), by rw [playL_ok h0]; rw [plN_len]; exact hS.sub (.cons_cons _ (List.nil_sublist _))⟩
/-- barrage/barrageref10.Orders -/
theorem c_rOrders {c : Crew} {cs : List Value} {acts : List Acn} {av : Value} {w0 : World} (h : RCrew w0 cs c) (ha : Sl w0 6 RAct av acts) : CE Tryz.prog 9 #[.agg cs.toArray, av] w0 (fun u w' => ∃ lv, u = .tuple #[lv, .int .i64 (playE c acts)] ∧ St w0 w' [rowI lv 66 5 (playO c acts).length ((playO c acts).flatMap ordC)]) := by
  obtain ⟨ov, kv, nv, rfl, hso, hsk, hsn, hrm⟩ := id h
  obtain ⟨a, cap, rfl, hcap, hmx, hel⟩ := id hso
  refine enter Tryz.func9 rfl Tryz.ntmps9 rfl ?_
  have hS := St.start w0
  refine seq ?_
  refine region ?_
  refine sbox hS rfl rfl ?_; clear hS; intro b2 w hS
  refine sv (yAsg rfl) ?_
  refine sv (yAsg rfl) ?_
  refine nil ?_
  show Code.wp _ _ _ _ _
  refine seq ?_
  refine region ?_
  refine sv (yLdBA rfl Tryz.isAgg26 Tryz.sizeOf26 (hS.at _) rfl rfl) ?_
  refine sv (yMove rfl) ?_
  refine scall Tryz.call18 (.cons rfl (.cons rfl .nil)) (c_rvalid (h.ext hS.ext) (ha.ext RAct.stays hS.ext)) ?_
  rintro _ w ⟨rfl, hE⟩; replace hS := hS.step hE; clear hE
  refine sv (yAsg rfl) ?_
  refine nil ?_
  show Code.wp _ _ _ _ _
  refine seq ?_
  refine seq ?_
  refine region ?_
  refine sv (yMove rfl) ?_
  refine sv (yNeq rfl rfl) ?_
  refine nil ?_
  show Code.wp _ _ _ _ _
  refine cond rfl (fun c11 => ?_) (fun c11 => ?_)
  ·
    simp only [Bool.and_eq_true, Bool.or_eq_true, Bool.and_eq_false_iff, Bool.or_eq_false_iff, decide_eq_true_eq, decide_eq_false_iff_not, Bool.not_eq_true, Bool.not_eq_false, Bool.not_not, Bool.not_eq_eq_eq_not, Bool.not_true, Bool.not_false, Bool.false_eq_true, Bool.true_eq_false, ne_eq, Decidable.not_not, not_false_eq_true, not_true_eq_false] at c11
    have h0 : playE c acts ≠ 0 := c11
    refine seq ?_
    refine region ?_
    refine sv (yMove rfl) ?_
    refine sv (yAsg rfl) ?_
    refine sv (yAsg rfl) ?_
    refine nil ?_
    show Code.wp _ _ _ _ _
    refine wp_ret (thenR ?_)
    refine retQ (res2 rfl rfl rfl) ?_
    exact ⟨_, rfl, by rw [playO_bad h0]; exact (hS.nilrow 66 5).sub (.cons_cons _ (List.nil_sublist _))⟩
  ·
    simp only [Bool.and_eq_true, Bool.or_eq_true, Bool.and_eq_false_iff, Bool.or_eq_false_iff, decide_eq_true_eq, decide_eq_false_iff_not, Bool.not_eq_true, Bool.not_eq_false, Bool.not_not, Bool.not_eq_eq_eq_not, Bool.not_true, Bool.not_false, Bool.false_eq_true, Bool.true_eq_false, ne_eq, Decidable.not_not, not_false_eq_true, not_true_eq_false] at c11
    have h0 : playE c acts = 0 := by simpa using c11
    obtain ⟨hc9, hn60, hall9⟩ := play_ok h0
    refine skip ?_
    show Code.wp _ _ _ _ _
    refine seq ?_
    refine region ?_
    refine sv (yLdBA rfl Tryz.isAgg26 Tryz.sizeOf26 (hS.at _) rfl rfl) ?_
    refine sv (yMove rfl) ?_
    refine scall Tryz.call19 (.cons rfl (.cons rfl .nil)) (c_played (h.ext hS.ext) hc9 (ha.ext RAct.stays hS.ext) hall9 hn60) ?_
    rintro _ w ⟨rv, bv, ov, kv, rfl, hM⟩; replace hS := hS.call hM; clear hM
    simp only [List.cons_append, List.nil_append] at hS
    refine sv (yFld rfl Tryz.underlying60 rfl Tryz.isAgg33 rfl) ?_
    refine sv (yAsg rfl) ?_
    refine sv (yAsg rfl) ?_
    refine nil ?_
    show Code.wp _ _ _ _ _
    refine wp_ret ?_
    refine retQ (res2 rfl rfl rfl) ?_
    exact ⟨_, (by rw [h0]; try rfl), by rw [playO_ok h0]; exact hS.sub (.cons _ (.cons _ (.cons_cons _ (List.nil_sublist _))))⟩
/-- barrage/barrageref10.Keys -/
theorem c_rKeys {c : Crew} {cs : List Value} {acts : List Acn} {av : Value} {w0 : World} (h : RCrew w0 cs c) (ha : Sl w0 6 RAct av acts) : CE Tryz.prog 12 #[.agg cs.toArray, av] w0 (fun u w' => ∃ lv, u = .tuple #[lv, .int .i64 (playE c acts)] ∧ St w0 w' [rowI lv 3 1 (playK c acts).length ((playK c acts).flatMap Bx.encI)]) := by
  obtain ⟨ov, kv, nv, rfl, hso, hsk, hsn, hrm⟩ := id h
  obtain ⟨a, cap, rfl, hcap, hmx, hel⟩ := id hso
  refine enter Tryz.func12 rfl Tryz.ntmps12 rfl ?_
  have hS := St.start w0
  refine seq ?_
  refine region ?_
  refine sbox hS rfl rfl ?_; clear hS; intro b2 w hS
  refine sv (yAsg rfl) ?_
  refine sv (yAsg rfl) ?_
  refine nil ?_
  show Code.wp _ _ _ _ _
  refine seq ?_
  refine region ?_
  refine sv (yLdBA rfl Tryz.isAgg26 Tryz.sizeOf26 (hS.at _) rfl rfl) ?_
  refine sv (yMove rfl) ?_
  refine scall Tryz.call18 (.cons rfl (.cons rfl .nil)) (c_rvalid (h.ext hS.ext) (ha.ext RAct.stays hS.ext)) ?_
  rintro _ w ⟨rfl, hE⟩; replace hS := hS.step hE; clear hE
  refine sv (yAsg rfl) ?_
  refine nil ?_
  show Code.wp _ _ _ _ _
  refine seq ?_
  refine seq ?_
  refine region ?_
  refine sv (yMove rfl) ?_
  refine sv (yNeq rfl rfl) ?_
  refine nil ?_
  show Code.wp _ _ _ _ _
  refine cond rfl (fun c11 => ?_) (fun c11 => ?_)
  ·
    simp only [Bool.and_eq_true, Bool.or_eq_true, Bool.and_eq_false_iff, Bool.or_eq_false_iff, decide_eq_true_eq, decide_eq_false_iff_not, Bool.not_eq_true, Bool.not_eq_false, Bool.not_not, Bool.not_eq_eq_eq_not, Bool.not_true, Bool.not_false, Bool.false_eq_true, Bool.true_eq_false, ne_eq, Decidable.not_not, not_false_eq_true, not_true_eq_false] at c11
    have h0 : playE c acts ≠ 0 := c11
    refine seq ?_
    refine region ?_
    refine sv (yMove rfl) ?_
    refine sv (yAsg rfl) ?_
    refine sv (yAsg rfl) ?_
    refine nil ?_
    show Code.wp _ _ _ _ _
    refine wp_ret (thenR ?_)
    refine retQ (res2 rfl rfl rfl) ?_
    exact ⟨_, rfl, by rw [playK_bad h0]; exact (hS.nilrow 3 1).sub (.cons_cons _ (List.nil_sublist _))⟩
  ·
    simp only [Bool.and_eq_true, Bool.or_eq_true, Bool.and_eq_false_iff, Bool.or_eq_false_iff, decide_eq_true_eq, decide_eq_false_iff_not, Bool.not_eq_true, Bool.not_eq_false, Bool.not_not, Bool.not_eq_eq_eq_not, Bool.not_true, Bool.not_false, Bool.false_eq_true, Bool.true_eq_false, ne_eq, Decidable.not_not, not_false_eq_true, not_true_eq_false] at c11
    have h0 : playE c acts = 0 := by simpa using c11
    obtain ⟨hc9, hn60, hall9⟩ := play_ok h0
    refine skip ?_
    show Code.wp _ _ _ _ _
    refine seq ?_
    refine region ?_
    refine sv (yLdBA rfl Tryz.isAgg26 Tryz.sizeOf26 (hS.at _) rfl rfl) ?_
    refine sv (yMove rfl) ?_
    refine scall Tryz.call19 (.cons rfl (.cons rfl .nil)) (c_played (h.ext hS.ext) hc9 (ha.ext RAct.stays hS.ext) hall9 hn60) ?_
    rintro _ w ⟨rv, bv, ov, kv, rfl, hM⟩; replace hS := hS.call hM; clear hM
    simp only [List.cons_append, List.nil_append] at hS
    refine sv (yFld rfl Tryz.underlying60 rfl Tryz.isAgg37 rfl) ?_
    refine sv (yAsg rfl) ?_
    refine sv (yAsg rfl) ?_
    refine nil ?_
    show Code.wp _ _ _ _ _
    refine wp_ret ?_
    refine retQ (res2 rfl rfl rfl) ?_
    exact ⟨_, (by rw [h0]; try rfl), by rw [playK_ok h0]; exact hS.sub (.cons _ (.cons _ (.cons _ (.cons_cons _ (List.nil_sublist _)))))⟩
/-- barrage/barragelaw10.orders -/
theorem c_orders {la lb : List Ord} {va vb : Value} {w0 : World} (ha : Sl w0 5 ROrd va la) (hb : Sl w0 5 ROrd vb lb) : CV Tryz.prog 10 #[va, vb] w0 (.bool (decide (la = lb))) := by
  obtain ⟨aa, ca, rfl, hca, hma, hela⟩ := ha
  obtain ⟨ab, cb, rfl, hcb, hmb, helb⟩ := hb
  refine enter Tryz.func10 rfl Tryz.ntmps10 rfl ?_
  have hS := St.start w0
  refine seq ?_
  refine region ?_
  refine sv (yAsg rfl) ?_
  refine nil ?_
  show Code.wp _ _ _ _ _
  refine seq ?_
  refine seq ?_
  refine region ?_
  refine sv (yMove rfl) ?_
  refine sv (yLen rfl Tryz.underlying33) ?_
  refine sv (yMove rfl) ?_
  refine sv (yLen rfl Tryz.underlying33) ?_
  refine sv (yNeq rfl rfl) ?_
  refine nil ?_
  show Code.wp _ _ _ _ _
  refine cond rfl (fun c10 => ?_) (fun c10 => ?_)
  ·
    simp only [Bool.and_eq_true, Bool.or_eq_true, Bool.and_eq_false_iff, Bool.or_eq_false_iff, decide_eq_true_eq, decide_eq_false_iff_not, Bool.not_eq_true, Bool.not_eq_false, Bool.not_not, Bool.not_eq_eq_eq_not, Bool.not_true, Bool.not_false, Bool.false_eq_true, Bool.true_eq_false, ne_eq, Decidable.not_not, not_false_eq_true, not_true_eq_false] at c10
    refine seq ?_
    refine region ?_
    refine sv (yAsg rfl) ?_
    refine nil ?_
    show Code.wp _ _ _ _ _
    refine wp_ret (thenR ?_)
    exact retV (res1 rfl (eqB (by rw [decide_eq_false (fun h => by rw [h] at c10; exact c10 rfl)]))) hS.ext
  ·
    simp only [Bool.and_eq_true, Bool.or_eq_true, Bool.and_eq_false_iff, Bool.or_eq_false_iff, decide_eq_true_eq, decide_eq_false_iff_not, Bool.not_eq_true, Bool.not_eq_false, Bool.not_not, Bool.not_eq_eq_eq_not, Bool.not_true, Bool.not_false, Bool.false_eq_true, Bool.true_eq_false, ne_eq, Decidable.not_not, not_false_eq_true, not_true_eq_false] at c10
    refine skip ?_
    show Code.wp _ _ _ _ _
    refine seq ?_
    refine seq ?_
    refine region ?_
    refine sv (yAsg rfl) ?_
    refine nil ?_
    show Code.wp _ _ _ _ _
    refine block ?_
    refine loop (fun f w zz => ∃ (k : Nat), f 0 = .slice aa la.length ca ∧ f 1 = .slice ab lb.length cb ∧ f 5 = .int .i64 (k : Int) ∧ StX [] w0 w [] ∧ (k ≤ la.length) ∧ (∀ i, i < k → la[i]? = lb[i]?) ∧ zz = la.length - k) _ ⟨_, rfl, 0, rfl, rfl, rfl, hS, (Nat.zero_le _), (fun i hi => absurd hi (Nat.not_lt_zero i)), rfl⟩ ?_
    clear hS
    rintro f w _ ⟨k, h0, h1, h5, hS, hk, hI, rfl⟩
    refine seq ?_
    refine seq ?_
    refine region ?_
    refine sv (yMove h5) ?_
    refine sv (yMove h0) ?_
    refine sv (yLen rfl Tryz.underlying33) ?_
    refine sv (yLss rfl rfl) ?_
    refine nil ?_
    show Code.wp _ _ _ _ _
    refine cond rfl (fun c14 => ?_) (fun c14 => ?_)
    ·
      simp only [Bool.and_eq_true, Bool.or_eq_true, Bool.and_eq_false_iff, Bool.or_eq_false_iff, decide_eq_true_eq, decide_eq_false_iff_not, Bool.not_eq_true, Bool.not_eq_false, Bool.not_not, Bool.not_eq_eq_eq_not, Bool.not_true, Bool.not_false, Bool.false_eq_true, Bool.true_eq_false, ne_eq, Decidable.not_not, not_false_eq_true, not_true_eq_false] at c14
      obtain ⟨x, hx, hd⟩ := drop_of (l := la) (k := k) (by omega)
      obtain ⟨b, o, cs, ha, hlen, hcs, hR⟩ := hela (k) (by omega)
      obtain rfl : x = la[k] := (List.getElem?_eq_some_iff.1 hx).2.symm
      generalize la[k] = x at hx hd hR
      obtain ⟨rfl, _⟩ := hR
      obtain ⟨y, hxq, hdq⟩ := drop_of (l := lb) (k := k) (by omega)
      obtain ⟨bq, oq, csq, haq, hlenq, hcsq, hRq⟩ := helb (k) (by omega)
      obtain rfl : y = lb[k] := (List.getElem?_eq_some_iff.1 hxq).2.symm
      generalize lb[k] = y at hxq hdq hRq
      obtain ⟨rfl, _⟩ := hRq
      refine skip ?_
      show Code.wp _ _ _ _ _
      refine seq ?_
      refine block ?_
      refine seq ?_
      refine region_draw mixed (by kernel_rfl) hS ?_
      refine qv (fun w hS => (yMove h0)) ?_
      refine qv (fun w hS => (yMove h5)) ?_
      refine qv (fun w hS => (yIxa rfl ha rfl Tryz.runUnderlying33 Tryz.sizeOf66 (by omega) (by omega))) ?_
      refine qv (fun w hS => (yLdA rfl Tryz.isAgg66 Tryz.sizeOf66 (hcs.ext hS.ext) rfl)) ?_
      refine qv (fun w hS => (yMove h1)) ?_
      refine qv (fun w hS => (yMove h5)) ?_
      refine qv (fun w hS => (yIxa rfl haq rfl Tryz.runUnderlying33 Tryz.sizeOf66 (by omega) (by omega))) ?_
      refine qv (fun w hS => (yLdA rfl Tryz.isAgg66 Tryz.sizeOf66 (hcsq.ext hS.ext) rfl)) ?_
      refine qv (fun w hS => (neS66 rfl rfl)) ?_
      clear hS; refine qnil (fun w hS => ?_)
      show Code.wp _ _ _ _ _
      refine cond rfl (fun c25 => ?_) (fun c25 => ?_)
      ·
        skip
        have hne : x ≠ y := fun h => by subst h; simp at c25
        refine seq ?_
        refine region ?_
        refine sv (yAsg rfl) ?_
        refine nil ?_
        show Code.wp _ _ _ _ _
        refine wp_ret (blockR (thenR (thenR (blockR (thenR ?_)))))
        exact retV (res1 rfl (eqB (by rw [decide_eq_false (ne_of_get hx hxq hne)]))) hS.ext
      ·
        skip
        have hxy : x = y := by cases x; cases y; simp at c25; simp [c25]
        refine skip ?_
        show Code.wp _ _ _ _ _
        refine region ?_
        refine sv (yMove h5) ?_
        refine sv (yAdd rfl rfl ⟨by omega, by omega⟩) ?_
        refine sv (yAsg rfl) ?_
        refine nil ?_
        exact ⟨_, _, rfl, ⟨k + 1, h0, h1, rfl, hS, (by omega), (snoc hI (by rw [hx, hxq, hxy])), rfl⟩, by omega⟩
    ·
      simp only [Bool.and_eq_true, Bool.or_eq_true, Bool.and_eq_false_iff, Bool.or_eq_false_iff, decide_eq_true_eq, decide_eq_false_iff_not, Bool.not_eq_true, Bool.not_eq_false, Bool.not_not, Bool.not_eq_eq_eq_not, Bool.not_true, Bool.not_false, Bool.false_eq_true, Bool.true_eq_false, ne_eq, Decidable.not_not, not_false_eq_true, not_true_eq_false] at c14
      refine exit ?_
      show Code.wp _ _ _ _ _
      refine seq ?_
      refine region ?_
      refine sv (yAsg rfl) ?_
      refine nil ?_
      show Code.wp _ _ _ _ _
      refine wp_ret ?_
      exact retV (res1 rfl (eqB (by rw [decide_eq_true (eq_of_get (by omega) (fun i hi => hI i (by omega)))]))) hS.ext
set_option maxHeartbeats 4000000 in
/-- barrage/barragelaw10.CrewPlays -/
theorem w_CrewPlays {c : Crew} {cs : List Value} {acts : List Acn} {av : Value} {w0 : World} (h : RCrew w0 cs c) (ha : Sl w0 6 RAct av acts) : CV Tryz.prog 3 #[.agg cs.toArray, av] w0 (.bool true) := by
  obtain ⟨ov, kv, nv, rfl, hso, hsk, hsn, hrm⟩ := id h
  obtain ⟨a, cap, rfl, hcap, hmx, hel⟩ := id hso
  refine enter Tryz.func3 rfl Tryz.ntmps3 rfl ?_
  have hS := St.start w0
  refine seq ?_
  refine region ?_
  refine sbox hS rfl rfl ?_; clear hS; intro b2 w hS
  refine sv (yAsg rfl) ?_
  refine nil ?_
  show Code.wp _ _ _ _ _
  refine seq ?_
  refine region ?_
  refine sv (yLdBA rfl Tryz.isAgg26 Tryz.sizeOf26 (hS.at _) rfl rfl) ?_
  refine sv (yMove rfl) ?_
  refine scall Tryz.call5 (.cons rfl (.cons rfl .nil)) (c_Play (h.ext hS.ext) (ha.ext RAct.stays hS.ext)) ?_
  rintro _ w ⟨v1, rfl, hM⟩; replace hS := hS.call1 hM; clear hM
  refine sv (yMove rfl) ?_
  refine sv (yExt rfl rfl) ?_
  refine sv (yExt rfl rfl) ?_
  refine sv (yAsg rfl) ?_
  refine sv (yAsg rfl) ?_
  refine nil ?_
  show Code.wp _ _ _ _ _
  refine seq ?_
  refine region ?_
  refine sv (yLdBA rfl Tryz.isAgg26 Tryz.sizeOf26 (hS.at _) rfl rfl) ?_
  refine sv (yMove rfl) ?_
  refine scall Tryz.call6 (.cons rfl (.cons rfl .nil)) (c_rPlay (h.ext hS.ext) (ha.ext RAct.stays hS.ext)) ?_
  rintro _ w ⟨v2, rfl, hM⟩; replace hS := hS.call1 hM; clear hM
  refine sv (yMove rfl) ?_
  refine sv (yExt rfl rfl) ?_
  refine sv (yExt rfl rfl) ?_
  refine sv (yAsg rfl) ?_
  refine sv (yAsg rfl) ?_
  refine nil ?_
  show Code.wp _ _ _ _ _
  refine seq ?_
  refine seq ?_
  refine region ?_
  refine sv (yMove rfl) ?_
  refine sv (yMove rfl) ?_
  refine scall Tryz.call7 (.cons rfl (.cons rfl .nil)) (c_errors (sl_ints (hS.row v1) rfl (playL_bd _ _)) (sl_ints (hS.row v2) rfl (playL_bd _ _))) ?_
  rintro _ w ⟨rfl, hE⟩; replace hS := hS.step hE; clear hE
  refine sv (yNot rfl) ?_
  refine sv (yMove rfl) ?_
  refine sg rfl rfl rfl (fun g => (yMove rfl)) (fun v30 g30 => ?_)
  refine sg rfl rfl rfl (fun g => (yMove rfl)) (fun v31 g31 => ?_)
  refine sg rfl rfl rfl (fun g => (yNeq (g30.1 g) (g31.1 g))) (fun v32 g32 => ?_)
  refine sv (yOr rfl rfl (fun hB => (g32.1 hB))) ?_
  refine nil ?_
  show Code.wp _ _ _ _ _
  refine cond rfl (fun c33 => ?_) (fun c33 => ?_)
  ·
    simp only [Bool.and_eq_true, Bool.or_eq_true, Bool.and_eq_false_iff, Bool.or_eq_false_iff, decide_eq_true_eq, decide_eq_false_iff_not, Bool.not_eq_true, Bool.not_eq_false, Bool.not_not, Bool.not_eq_eq_eq_not, Bool.not_true, Bool.not_false, Bool.false_eq_true, Bool.true_eq_false, ne_eq, Decidable.not_not, not_false_eq_true, not_true_eq_false] at c33
    exfalso; simp at c33
  ·
    simp only [Bool.and_eq_true, Bool.or_eq_true, Bool.and_eq_false_iff, Bool.or_eq_false_iff, decide_eq_true_eq, decide_eq_false_iff_not, Bool.not_eq_true, Bool.not_eq_false, Bool.not_not, Bool.not_eq_eq_eq_not, Bool.not_true, Bool.not_false, Bool.false_eq_true, Bool.true_eq_false, ne_eq, Decidable.not_not, not_false_eq_true, not_true_eq_false] at c33
    refine skip ?_
    show Code.wp _ _ _ _ _
    refine seq ?_
    refine region ?_
    refine sv (yLdBA rfl Tryz.isAgg26 Tryz.sizeOf26 (hS.at _) rfl rfl) ?_
    refine sv (yMove rfl) ?_
    refine scall Tryz.call8 (.cons rfl (.cons rfl .nil)) (c_Orders (h.ext hS.ext) (ha.ext RAct.stays hS.ext)) ?_
    rintro _ w ⟨v3, rfl, hM⟩; replace hS := hS.call1 hM; clear hM
    refine sv (yMove rfl) ?_
    refine sv (yExt rfl rfl) ?_
    refine sv (yExt rfl rfl) ?_
    refine sv (yAsg rfl) ?_
    refine sv (yAsg rfl) ?_
    refine nil ?_
    show Code.wp _ _ _ _ _
    refine seq ?_
    refine region ?_
    refine sv (yLdBA rfl Tryz.isAgg26 Tryz.sizeOf26 (hS.at _) rfl rfl) ?_
    refine sv (yMove rfl) ?_
    refine scall Tryz.call9 (.cons rfl (.cons rfl .nil)) (c_rOrders (h.ext hS.ext) (ha.ext RAct.stays hS.ext)) ?_
    rintro _ w ⟨v4, rfl, hM⟩; replace hS := hS.call1 hM; clear hM
    refine sv (yMove rfl) ?_
    refine sv (yExt rfl rfl) ?_
    refine sv (yExt rfl rfl) ?_
    refine sv (yAsg rfl) ?_
    refine sv (yAsg rfl) ?_
    refine nil ?_
    show Code.wp _ _ _ _ _
    refine seq ?_
    refine seq ?_
    refine region ?_
    refine sv (yMove rfl) ?_
    refine sv (yMove rfl) ?_
    refine scall Tryz.call10 (.cons rfl (.cons rfl .nil)) (c_orders (sl_ords (hS.row v3) rfl) (sl_ords (hS.row v4) rfl)) ?_
    rintro _ w ⟨rfl, hE⟩; replace hS := hS.step hE; clear hE
    refine sv (yNot rfl) ?_
    refine sv (yMove rfl) ?_
    refine sg rfl rfl rfl (fun g => (yMove rfl)) (fun v51 g51 => ?_)
    refine sg rfl rfl rfl (fun g => (yMove rfl)) (fun v52 g52 => ?_)
    refine sg rfl rfl rfl (fun g => (yNeq (g51.1 g) (g52.1 g))) (fun v53 g53 => ?_)
    refine sv (yOr rfl rfl (fun hB => (g53.1 hB))) ?_
    refine nil ?_
    show Code.wp _ _ _ _ _
    refine cond rfl (fun c54 => ?_) (fun c54 => ?_)
    ·
      simp only [Bool.and_eq_true, Bool.or_eq_true, Bool.and_eq_false_iff, Bool.or_eq_false_iff, decide_eq_true_eq, decide_eq_false_iff_not, Bool.not_eq_true, Bool.not_eq_false, Bool.not_not, Bool.not_eq_eq_eq_not, Bool.not_true, Bool.not_false, Bool.false_eq_true, Bool.true_eq_false, ne_eq, Decidable.not_not, not_false_eq_true, not_true_eq_false] at c54
      exfalso; simp at c54
    ·
      simp only [Bool.and_eq_true, Bool.or_eq_true, Bool.and_eq_false_iff, Bool.or_eq_false_iff, decide_eq_true_eq, decide_eq_false_iff_not, Bool.not_eq_true, Bool.not_eq_false, Bool.not_not, Bool.not_eq_eq_eq_not, Bool.not_true, Bool.not_false, Bool.false_eq_true, Bool.true_eq_false, ne_eq, Decidable.not_not, not_false_eq_true, not_true_eq_false] at c54
      refine skip ?_
      show Code.wp _ _ _ _ _
      refine seq ?_
      refine region ?_
      refine sv (yLdBA rfl Tryz.isAgg26 Tryz.sizeOf26 (hS.at _) rfl rfl) ?_
      refine sv (yMove rfl) ?_
      refine scall Tryz.call11 (.cons rfl (.cons rfl .nil)) (c_Keys (h.ext hS.ext) (ha.ext RAct.stays hS.ext)) ?_
      rintro _ w ⟨v5, rfl, hM⟩; replace hS := hS.call1 hM; clear hM
      refine sv (yMove rfl) ?_
      refine sv (yExt rfl rfl) ?_
      refine sv (yExt rfl rfl) ?_
      refine sv (yAsg rfl) ?_
      refine sv (yAsg rfl) ?_
      refine nil ?_
      show Code.wp _ _ _ _ _
      refine seq ?_
      refine region ?_
      refine sv (yLdBA rfl Tryz.isAgg26 Tryz.sizeOf26 (hS.at _) rfl rfl) ?_
      refine sv (yMove rfl) ?_
      refine scall Tryz.call12 (.cons rfl (.cons rfl .nil)) (c_rKeys (h.ext hS.ext) (ha.ext RAct.stays hS.ext)) ?_
      rintro _ w ⟨v6, rfl, hM⟩; replace hS := hS.call1 hM; clear hM
      refine sv (yMove rfl) ?_
      refine sv (yExt rfl rfl) ?_
      refine sv (yExt rfl rfl) ?_
      refine sv (yAsg rfl) ?_
      refine sv (yAsg rfl) ?_
      refine nil ?_
      show Code.wp _ _ _ _ _
      refine seq ?_
      refine region ?_
      refine sv (yMove rfl) ?_
      refine sv (yMove rfl) ?_
      refine scall Tryz.call13 (.cons rfl (.cons rfl .nil)) (c_Ints (sl_ints (hS.row v5) rfl (playK_bd c acts)) (sl_ints (hS.row v6) rfl (playK_bd c acts))) ?_
      rintro _ w ⟨rfl, hE⟩; replace hS := hS.step hE; clear hE
      refine sv (yMove rfl) ?_
      refine sg rfl rfl rfl (fun g => (yMove rfl)) (fun v71 g71 => ?_)
      refine sg rfl rfl rfl (fun g => (yMove rfl)) (fun v72 g72 => ?_)
      refine sg rfl rfl rfl (fun g => (yEql (g71.1 g) (g72.1 g))) (fun v73 g73 => ?_)
      refine sv (yAnd rfl (fun hB => (g73.1 hB)) rfl) ?_
      refine sv (yMove rfl) ?_
      refine sgc hS rfl rfl rfl Tryz.call14 (fun g => .nil) (fun g => c_Awake) ?_; clear hS; intro v76 w hS g76
      refine sv (yAnd rfl (fun hB => (g76.1 hB)) rfl) ?_
      refine sv (yAsg rfl) ?_
      refine nil ?_
      show Code.wp _ _ _ _ _
      refine wp_ret ?_
      exact retV (res1 rfl (eqB (by simp))) hS.ext
end Go.Proofs.YtghgnofilbnbaaaGreat
/- part Cz7 -/
namespace Go.Proofs.YtghgnofilbnbaaaGreat
open Go Bx
set_option maxHeartbeats 8000000 in
/-- barrage/barrageref10.Judge -/
theorem c_rJudge {c : Crew} {cs ss : List Value} {s : Scr} {start : Int} {acts : List Acn} {av : Value} {w0 : World} (h : RCrew w0 cs c) (hs : RScr w0 ss s) (hsi : I64 start) (ha : Sl w0 6 RAct av acts) : CE Tryz.prog 16 #[.agg cs.toArray, .agg ss.toArray, .int .i64 start, av] w0 (fun u w' => ∃ lv, u = .tuple #[lv, .int .i64 (judE c s start acts)] ∧ St w0 w' [rowI lv 52 2 (judL c s start acts).length ((judL c s start acts).flatMap pC)]) := by
  obtain ⟨ov, kv, nv, rfl, hso, hsk, hsn, hrm⟩ := id h
  obtain ⟨a, cap, rfl, hcap, hmx, hel⟩ := id hso
  obtain ⟨sv, rfl, hsz, hst⟩ := id hs
  obtain ⟨ax, cps, rfl, hscap, hsmx, hels⟩ := id hst
  refine enter Tryz.func16 rfl Tryz.ntmps16 rfl ?_
  have hS := St.start w0
  refine seq ?_
  refine region ?_
  refine sbox hS rfl rfl ?_; clear hS; intro b4 w hS
  refine sbox hS rfl rfl ?_; clear hS; intro b5 w hS
  refine sv (yAsg rfl) ?_
  refine sv (yAsg rfl) ?_
  refine nil ?_
  show Code.wp _ _ _ _ _
  refine seq ?_
  refine region ?_
  refine sv (yLdBA rfl Tryz.isAgg26 Tryz.sizeOf26 (hS.at _) rfl rfl) ?_
  refine sv (yLdBA rfl Tryz.isAgg45 Tryz.sizeOf45 (hS.at _) rfl rfl) ?_
  refine scall Tryz.call31 (.cons rfl (.cons rfl .nil)) (c_rCheckScript (h.ext hS.ext) (hs.ext hS.ext)) ?_
  rintro _ w ⟨rfl, hE⟩; replace hS := hS.step hE; clear hE
  refine sv (yMove rfl) ?_
  refine sv (yExt rfl rfl) ?_
  refine sv (yExt rfl rfl) ?_
  refine sv (yAsg rfl) ?_
  refine sv (yAsg rfl) ?_
  refine nil ?_
  show Code.wp _ _ _ _ _
  refine seqJ (n := 167) (fun f w => f 2 = .int .i64 start ∧ f 3 = av ∧ f 4 = .pointer (some ⟨b4, 0, none⟩) ∧ f 5 = .pointer (some ⟨b5, 0, none⟩) ∧ f 11 = .int .i64 (judE1 c s start) ∧ StX [] w0 w [blk b5 [.string s.name, .slice ax s.steps.length cps] 45, blk b4 [.slice a c.ops.length cap, kv, nv] 26] ∧ True) ?_ ?_
  ·
    refine seq ?_
    refine region ?_
    refine sv (yMove rfl) ?_
    refine sv (yEql rfl rfl) ?_
    refine sv (yMove rfl) ?_
    refine sg rfl rfl rfl (fun g => (yMove rfl)) (fun v30 g30 => ?_)
    refine sgc hS rfl rfl rfl Tryz.call32 (fun g => (.cons (g30.1 g) .nil)) (fun g => c_rminute) ?_; clear hS; intro v31 w hS g31
    refine sg rfl rfl rfl (fun g => (yNot (g31.1 g))) (fun v32 g32 => ?_)
    refine sv (yAnd rfl (fun hB => (g32.1 hB)) rfl) ?_
    refine nil ?_
    show Code.wp _ _ _ _ _
    refine cond rfl (fun c33 => ?_) (fun c33 => ?_)
    ·
      refine region ?_
      refine sv (yAsg rfl) ?_
      refine nil ?_
      exact ⟨_, rfl, rfl, rfl, rfl, rfl, rfl.trans (congrArg (Value.int .i64) (judE1_yes c33).symm), hS, trivial⟩
    ·
      refine skip ?_
      exact ⟨_, rfl, rfl, rfl, rfl, rfl, rfl.trans (congrArg (Value.int .i64) (judE1_no c33).symm), hS, trivial⟩
  ·
    clear hS; rintro f w ⟨h2, h3, h4, h5, h11, hS, -⟩
    refine seq ?_
    refine seq ?_
    refine region ?_
    refine sv (yMove h11) ?_
    refine sv (yNeq rfl rfl) ?_
    refine nil ?_
    show Code.wp _ _ _ _ _
    refine cond rfl (fun c35 => ?_) (fun c35 => ?_)
    ·
      simp only [Bool.and_eq_true, Bool.or_eq_true, Bool.and_eq_false_iff, Bool.or_eq_false_iff, decide_eq_true_eq, decide_eq_false_iff_not, Bool.not_eq_true, Bool.not_eq_false, Bool.not_not, Bool.not_eq_eq_eq_not, Bool.not_true, Bool.not_false, Bool.false_eq_true, Bool.true_eq_false, ne_eq, Decidable.not_not, not_false_eq_true, not_true_eq_false] at c35
      refine seq ?_
      refine region ?_
      refine sv (yMove h11) ?_
      refine sv (yAsg rfl) ?_
      refine sv (yAsg rfl) ?_
      refine nil ?_
      show Code.wp _ _ _ _ _
      refine wp_ret (thenR ?_)
      refine retQ (res2 rfl rfl rfl) ?_
      exact ⟨_, by (rw [(judE1_bad (acts := acts) c35).1]; try rfl), by rw [(judE1_bad (acts := acts) c35).2]; exact (hS.nilrow 52 2).sub (.cons_cons _ (List.nil_sublist _))⟩
    ·
      simp only [Bool.and_eq_true, Bool.or_eq_true, Bool.and_eq_false_iff, Bool.or_eq_false_iff, decide_eq_true_eq, decide_eq_false_iff_not, Bool.not_eq_true, Bool.not_eq_false, Bool.not_not, Bool.not_eq_eq_eq_not, Bool.not_true, Bool.not_false, Bool.false_eq_true, Bool.true_eq_false, ne_eq, Decidable.not_not, not_false_eq_true, not_true_eq_false] at c35
      obtain ⟨hs0, hnv⟩ := judE1_ok c35
      have hok := scrOk_of hs0
      have hlen := hok.len
      have hnv2 := hnv
      rw [neverB, outB_false] at hnv2
      refine skip ?_
      show Code.wp _ _ _ _ _
      refine seq ?_
      refine region ?_
      refine sv (yLdBA h4 Tryz.isAgg26 Tryz.sizeOf26 (hS.at _) rfl rfl) ?_
      refine sv (yMove h3) ?_
      refine scall Tryz.call9 (.cons rfl (.cons rfl .nil)) (c_rOrders (h.ext hS.ext) (ha.ext RAct.stays hS.ext)) ?_
      rintro _ w ⟨ov, rfl, hM⟩; replace hS := hS.call1 hM; clear hM
      obtain ⟨ao, co, rfl⟩ := row_shape (hS.row ov)
      refine sv (yMove rfl) ?_
      refine sv (yExt rfl rfl) ?_
      refine sv (yExt rfl rfl) ?_
      refine sv (yAsg rfl) ?_
      refine sv (yAsg rfl) ?_
      refine nil ?_
      show Code.wp _ _ _ _ _
      refine seq ?_
      refine seq ?_
      refine region ?_
      refine sv (yMove rfl) ?_
      refine sv (yNeq rfl rfl) ?_
      refine nil ?_
      show Code.wp _ _ _ _ _
      refine cond rfl (fun c44 => ?_) (fun c44 => ?_)
      ·
        simp only [Bool.and_eq_true, Bool.or_eq_true, Bool.and_eq_false_iff, Bool.or_eq_false_iff, decide_eq_true_eq, decide_eq_false_iff_not, Bool.not_eq_true, Bool.not_eq_false, Bool.not_not, Bool.not_eq_eq_eq_not, Bool.not_true, Bool.not_false, Bool.false_eq_true, Bool.true_eq_false, ne_eq, Decidable.not_not, not_false_eq_true, not_true_eq_false] at c44
        refine seq ?_
        refine region ?_
        refine sv (yMove rfl) ?_
        refine sv (yAsg rfl) ?_
        refine sv (yAsg rfl) ?_
        refine nil ?_
        show Code.wp _ _ _ _ _
        refine wp_ret (thenR ?_)
        refine retQ (res2 rfl rfl rfl) ?_
        exact ⟨_, by (rw [(judE_3 hs0 hnv c44).1]; try rfl), by rw [(judE_3 hs0 hnv c44).2]; exact (hS.nilrow 52 2).sub (.cons_cons _ (List.nil_sublist _))⟩
      ·
        simp only [Bool.and_eq_true, Bool.or_eq_true, Bool.and_eq_false_iff, Bool.or_eq_false_iff, decide_eq_true_eq, decide_eq_false_iff_not, Bool.not_eq_true, Bool.not_eq_false, Bool.not_not, Bool.not_eq_eq_eq_not, Bool.not_true, Bool.not_false, Bool.false_eq_true, Bool.true_eq_false, ne_eq, Decidable.not_not, not_false_eq_true, not_true_eq_false] at c44
        have hpl0 : playE c acts = 0 := c44
        obtain ⟨hpn, hlt⟩ := playO_tm hpl0
        have hfin := judE_0 (start := start) hs0 hnv hpl0
        refine skip ?_
        show Code.wp _ _ _ _ _
        refine seq ?_
        replace hS := (((hS.sub (.cons_cons _ (.cons_cons _ (List.nil_sublist _)))).nilrow 52 2).nilrow 3 1).nilrow 3 1
        refine cutK (fun f => f 2 = .int .i64 start ∧ f 5 = .pointer (some ⟨b5, 0, none⟩) ∧ f 12 = .slice ao (playO c acts).length co ∧ True) ⟨h2, h5, rfl, trivial⟩ ?_
        rintro f ⟨h2, h5, h12, -⟩
        refine region ?_
        refine sv (yAsg rfl) ?_
        refine sv (yAsg rfl) ?_
        refine nil ?_
        show Code.wp _ _ _ _ _
        refine seq ?_
        refine region ?_
        refine sv (yAsg rfl) ?_
        refine nil ?_
        show Code.wp _ _ _ _ _
        refine seq ?_
        refine seq ?_
        refine region ?_
        refine sv (yAsg rfl) ?_
        refine nil ?_
        show Code.wp _ _ _ _ _
        refine block ?_
        refine loop (fun f w zz => ∃ (k : Nat) (dn tk : List Int) (dv tv fv : Value) (ao : Option Addr), f 2 = .int .i64 start ∧ f 5 = .pointer (some ⟨b5, 0, none⟩) ∧ f 12 = .slice ao (playO c acts).length co ∧ f 13 = dv ∧ f 14 = tv ∧ f 15 = fv ∧ f 16 = .int .i64 (k : Int) ∧ StX [] w0 w [rowI dv 3 1 (k) ((dn).flatMap Bx.encI), rowI tv 3 1 (tk).length ((tk).flatMap Bx.encI), rowI fv 52 2 ((judN s start (leftJ c acts start) k)).flt.length (((judN s start (leftJ c acts start) k)).flt.flatMap pC), rowI (.slice ao (playO c acts).length co) 66 5 (playO c acts).length ((playO c acts).flatMap ordC), blk b5 [.string s.name, .slice ax s.steps.length cps] 45] ∧ (k ≤ s.steps.length) ∧ (dn.length = k) ∧ (tk.length ≤ k) ∧ (∀ y ∈ tk, 0 ≤ y ∧ y ≤ 60) ∧ (RJ (playO c acts) start dn tk (judN s start (leftJ c acts start) k)) ∧ zz = s.steps.length - k) _ ⟨_, rfl, 0, [], [], _, _, _, _, h2, h5, h12, rfl, rfl, rfl, rfl, hS, (Nat.zero_le _), (rfl), (Nat.le_refl _), (fun y hy => (List.not_mem_nil hy).elim), (rj_0), rfl⟩ ?_
        clear hS
        rintro f w _ ⟨k, dn, tk, dv, tv, fv, ao, h2, h5, h12, h13, h14, h15, h16, hS, hk, hdl, htl, htb, hR, rfl⟩
        refine seq ?_
        refine seq ?_
        refine region ?_
        refine sv (yMove h16) ?_
        refine sv (fa45_1 h5) ?_
        refine sv (yLdB rfl Tryz.isAgg43 (hS.at _) rfl) ?_
        refine sv (yLen rfl Tryz.underlying43) ?_
        refine sv (yLss rfl rfl) ?_
        refine nil ?_
        show Code.wp _ _ _ _ _
        refine cond rfl (fun c50 => ?_) (fun c50 => ?_)
        ·
          simp only [Bool.and_eq_true, Bool.or_eq_true, Bool.and_eq_false_iff, Bool.or_eq_false_iff, decide_eq_true_eq, decide_eq_false_iff_not, Bool.not_eq_true, Bool.not_eq_false, Bool.not_not, Bool.not_eq_eq_eq_not, Bool.not_true, Bool.not_false, Bool.false_eq_true, Bool.true_eq_false, ne_eq, Decidable.not_not, not_false_eq_true, not_true_eq_false] at c50
          refine skip ?_
          show Code.wp _ _ _ _ _
          refine seqJ (n := 167) (fun f w => ∃ (dn tk : List Int) (dv tv fv : Value) (ao : Option Addr), f 2 = .int .i64 start ∧ f 5 = .pointer (some ⟨b5, 0, none⟩) ∧ f 12 = .slice ao (playO c acts).length co ∧ f 13 = dv ∧ f 14 = tv ∧ f 15 = fv ∧ f 16 = .int .i64 (k : Int) ∧ StX [] w0 w [rowI dv 3 1 (k + 1) ((dn).flatMap Bx.encI), rowI tv 3 1 (tk).length ((tk).flatMap Bx.encI), rowI fv 52 2 ((judN s start (leftJ c acts start) (k + 1))).flt.length (((judN s start (leftJ c acts start) (k + 1))).flt.flatMap pC), rowI (.slice ao (playO c acts).length co) 66 5 (playO c acts).length ((playO c acts).flatMap ordC), blk b5 [.string s.name, .slice ax s.steps.length cps] 45] ∧ (k + 1 ≤ s.steps.length) ∧ (dn.length = k + 1) ∧ (tk.length ≤ k + 1) ∧ (∀ y ∈ tk, 0 ≤ y ∧ y ≤ 60) ∧ (RJ (playO c acts) start dn tk (judN s start (leftJ c acts start) (k + 1))) ∧ True) ?_ ?_
          ·
            refine block ?_
            refine seq ?_
            refine region ?_
            have hels9 := hels
            obtain ⟨x, hxq, hdq⟩ := drop_of (l := s.steps) (k := k) (by omega)
            obtain ⟨bq, oq, csq, haq, hlenq, hcsq, hRq⟩ := hels (k) (by omega)
            obtain rfl : x = s.steps[k] := (List.getElem?_eq_some_iff.1 hxq).2.symm
            generalize s.steps[k] = x at hxq hdq hRq
            obtain ⟨rfl, hxi⟩ := hRq
            have hsx := hok.steps k x hxq
            have hx1 := hsx.after
            have hx2 := hsx.most
            have hx3 := hsx.least
            have hjs := judN_succ (start := start) (l := leftJ c acts start) hxq
            have hjf := judN_flt s start (leftJ c acts start) k
            have hT64 : ∀ y ∈ tk, I64 y := fun y hy => by have := htb y hy; exact ⟨by omega, by omega⟩
            refine sv (fa45_1 h5) ?_
            refine sv (yLdB rfl Tryz.isAgg43 (hS.at _) rfl) ?_
            refine sv (yMove h16) ?_
            refine sv (yIxa rfl haq rfl Tryz.runUnderlying43 Tryz.sizeOf78 (by omega) (by omega)) ?_
            refine sv (yLdA rfl Tryz.isAgg78 Tryz.sizeOf78 (hcsq.ext hS.ext) rfl) ?_
            refine salloc hS Tryz.zeroValue78 rfl ?_; clear hS; intro b17 w hS
            refine sst hS rfl rfl Tryz.sizeOf78 rfl rfl rfl rfl ?_; clear hS; intro w hS
            refine nil ?_
            show Code.wp _ _ _ _ _
            refine seq ?_
            refine region ?_
            refine sv (yAsg rfl) ?_
            refine nil ?_
            show Code.wp _ _ _ _ _
            refine seq ?_
            refine seq ?_
            refine region ?_
            refine sv (yAsg rfl) ?_
            refine nil ?_
            show Code.wp _ _ _ _ _
            refine block ?_
            refine loop (fun f w zz => ∃ (q : Nat) (own : Int) (ao : Option Addr), f 2 = .int .i64 start ∧ f 5 = .pointer (some ⟨b5, 0, none⟩) ∧ f 12 = .slice ao (playO c acts).length co ∧ f 13 = dv ∧ f 14 = tv ∧ f 15 = fv ∧ f 16 = .int .i64 (k : Int) ∧ f 17 = .pointer (some ⟨b17, 0, none⟩) ∧ f 18 = .int .i64 own ∧ f 19 = .int .i64 (q : Int) ∧ StX [] w0 w [blk b17 (stpC x) 78, rowI dv 3 1 (k) ((dn).flatMap Bx.encI), rowI tv 3 1 (tk).length ((tk).flatMap Bx.encI), rowI fv 52 2 ((judN s start (leftJ c acts start) k)).flt.length (((judN s start (leftJ c acts start) k)).flt.flatMap pC), rowI (.slice ao (playO c acts).length co) 66 5 (playO c acts).length ((playO c acts).flatMap ordC), blk b5 [.string s.name, .slice ax s.steps.length cps] 45] ∧ (q ≤ (playO c acts).length) ∧ ((own = -1 ∧ ∀ r, r < q → hitR (playO c acts) start tk x r = false) ∨ (∃ r : Nat, r < (playO c acts).length ∧ own = (r : Int) ∧ hitR (playO c acts) start tk x r = true ∧ ∀ r2, r2 < r → hitR (playO c acts) start tk x r2 = false)) ∧ zz = (playO c acts).length - q) _ ⟨_, rfl, 0, -1, ao, h2, h5, h12, h13, h14, h15, h16, rfl, rfl, rfl, hS, (Nat.zero_le _), (.inl ⟨rfl, fun r hr => absurd hr (Nat.not_lt_zero r)⟩), rfl⟩ ?_
            clear hS
            rintro f w _ ⟨q, own, ao, h2, h5, h12, h13, h14, h15, h16, h17, h18, h19, hS, hq, hown, rfl⟩
            refine seq ?_
            refine seq ?_
            refine region ?_
            refine sv (yMove h19) ?_
            refine sv (yMove h12) ?_
            refine sv (yLen rfl Tryz.underlying33) ?_
            refine sv (yLss rfl rfl) ?_
            refine sv (yMove rfl) ?_
            refine sg rfl rfl rfl (fun g => (yMove h18)) (fun v63 g63 => ?_)
            refine sg rfl rfl rfl (fun g => (yLss (g63.1 g) rfl)) (fun v64 g64 => ?_)
            refine sv (yAnd rfl (fun hB => (g64.1 hB)) rfl) ?_
            refine nil ?_
            show Code.wp _ _ _ _ _
            refine cond rfl (fun c65 => ?_) (fun c65 => ?_)
            ·
              simp only [Bool.and_eq_true, Bool.or_eq_true, Bool.and_eq_false_iff, Bool.or_eq_false_iff, decide_eq_true_eq, decide_eq_false_iff_not, Bool.not_eq_true, Bool.not_eq_false, Bool.not_not, Bool.not_eq_eq_eq_not, Bool.not_true, Bool.not_false, Bool.false_eq_true, Bool.true_eq_false, ne_eq, Decidable.not_not, not_false_eq_true, not_true_eq_false] at c65
              refine skip ?_
              show Code.wp _ _ _ _ _
              refine seq ?_
              refine block ?_
              refine seq ?_
              refine region_draw mixed (by kernel_rfl) hS ?_
              obtain ⟨o, hxo, -⟩ := drop_of (l := playO c acts) (k := q) (by omega)
              obtain ⟨go, rfl, -⟩ := row_get (hS.row (.slice ao (playO c acts).length co)) (by omega)
              have hhit := hitR_at (start := start) (tk := tk) (x := x) hxo
              have hN := (hown.resolve_right (fun ⟨r, _, h9, _⟩ => by omega)).2
              refine qv (fun w hS => (yMove h12)) ?_
              refine qv (fun w hS => (yMove h19)) ?_
              refine qv (fun w hS => (yIx0 rfl rfl Tryz.runUnderlying33 Tryz.sizeOf66 (by omega))) ?_
              refine qv (fun w hS => (fa66_2 rfl)) ?_
              refine qv (fun w hS => (yLd rfl Tryz.isAgg3 ((flat_cells0 ordC_len (row_at (hS.row (.slice (some ⟨go, 0, none⟩) (playO c acts).length co)) rfl (by omega)) hxo).at (j := 2) rfl))) ?_
              refine qv (fun w hS => (fa78_0 h17)) ?_
              refine qv (fun w hS => (yLdB rfl Tryz.isAgg3 (hS.at _) rfl)) ?_
              refine qv (fun w hS => (yEql rfl rfl)) ?_
              refine qv (fun w hS => (yMove rfl)) ?_
              refine qg rfl rfl rfl (fun g w hS => (yMove h12)) (fun v77 g77 => ?_)
              refine qg rfl rfl rfl (fun g w hS => (yMove h19)) (fun v78 g78 => ?_)
              refine qg rfl rfl rfl (fun g w hS => (yIx0 (g77.1 g) (g78.1 g) Tryz.runUnderlying33 Tryz.sizeOf66 (by omega))) (fun v79 g79 => ?_)
              refine qg rfl rfl rfl (fun g w hS => (fa66_3 (g79.1 g))) (fun v80 g80 => ?_)
              refine qg rfl rfl rfl (fun g w hS => (yLd (g80.1 g) Tryz.isAgg3 ((flat_cells0 ordC_len (row_at (hS.row (.slice (some ⟨go, 0, none⟩) (playO c acts).length co)) rfl (by omega)) hxo).at (j := 3) rfl))) (fun v81 g81 => ?_)
              refine qg rfl rfl rfl (fun g w hS => (fa78_1 h17)) (fun v82 g82 => ?_)
              refine qg rfl rfl rfl (fun g w hS => (yLdB (g82.1 g) Tryz.isAgg3 (hS.at _) rfl)) (fun v83 g83 => ?_)
              refine qg rfl rfl rfl (fun g w hS => (yEql (g81.1 g) (g83.1 g))) (fun v84 g84 => ?_)
              refine qv (fun w hS => (yAnd rfl (fun hB => (g84.1 hB)) rfl)) ?_
              refine qv (fun w hS => (yMove rfl)) ?_
              refine qg rfl rfl rfl (fun g w hS => (yMove h12)) (fun v87 g87 => ?_)
              refine qg rfl rfl rfl (fun g w hS => (yMove h19)) (fun v88 g88 => ?_)
              refine qg rfl rfl rfl (fun g w hS => (yIx0 (g87.1 g) (g88.1 g) Tryz.runUnderlying33 Tryz.sizeOf66 (by omega))) (fun v89 g89 => ?_)
              refine qg rfl rfl rfl (fun g w hS => (fa66_4 (g89.1 g))) (fun v90 g90 => ?_)
              refine qg rfl rfl rfl (fun g w hS => (yLd (g90.1 g) Tryz.isAgg3 ((flat_cells0 ordC_len (row_at (hS.row (.slice (some ⟨go, 0, none⟩) (playO c acts).length co)) rfl (by omega)) hxo).at (j := 4) rfl))) (fun v91 g91 => ?_)
              refine qg rfl rfl rfl (fun g w hS => (yMove h2)) (fun v92 g92 => ?_)
              refine qg rfl rfl rfl (fun g w hS => (yGeq (g91.1 g) (g92.1 g))) (fun v93 g93 => ?_)
              refine qv (fun w hS => (yAnd rfl (fun hB => (g93.1 hB)) rfl)) ?_
              refine qv (fun w hS => (yMove rfl)) ?_
              refine qg rfl rfl rfl (fun g w hS => (yMove h14)) (fun v96 g96 => ?_)
              refine qg rfl rfl rfl (fun g w hS => (yMove h19)) (fun v97 g97 => ?_)
              refine qgc rfl rfl rfl Tryz.call33 (fun g => (.cons (g96.1 g) (.cons (g97.1 g) .nil))) (fun g w hS => (c_has (sl_ints (hS.row tv) rfl hT64))) (fun v98 g98 => ?_)
              refine qg rfl rfl rfl (fun g w hS => (yNot (g98.1 g))) (fun v99 g99 => ?_)
              refine qv (fun w hS => (yAnd rfl (fun hB => (g99.1 hB)) rfl)) ?_
              clear hS; refine qnil (fun w hS => ?_)
              show Code.wp _ _ _ _ _
              refine cond rfl (fun c100 => ?_) (fun c100 => ?_)
              ·
                refine region ?_
                refine sv (yMove h19) ?_
                refine sv (yAsg rfl) ?_
                refine nil ?_
                show Code.wp _ _ _ _ _
                refine region ?_
                refine sv (yMove h19) ?_
                refine sv (yAdd rfl rfl ⟨by omega, by omega⟩) ?_
                refine sv (yAsg rfl) ?_
                refine nil ?_
                exact ⟨_, _, rfl, ⟨q + 1, (q : Int), _, h2, h5, h12, h13, h14, h15, h16, h17, rfl, rfl, hS, (by omega), (.inr ⟨q, by omega, rfl, hhit.trans c100, hN⟩), rfl⟩, by omega⟩
              ·
                refine skip ?_
                show Code.wp _ _ _ _ _
                refine region ?_
                refine sv (yMove h19) ?_
                refine sv (yAdd rfl rfl ⟨by omega, by omega⟩) ?_
                refine sv (yAsg rfl) ?_
                refine nil ?_
                exact ⟨_, _, rfl, ⟨q + 1, own, _, h2, h5, h12, h13, h14, h15, h16, h17, h18, rfl, hS, (by omega), (.inl ⟨(hown.resolve_right (fun ⟨r, _, h9, _⟩ => by omega)).1, snoc hN (hhit.trans c100)⟩), rfl⟩, by omega⟩
            ·
              simp only [Bool.and_eq_true, Bool.or_eq_true, Bool.and_eq_false_iff, Bool.or_eq_false_iff, decide_eq_true_eq, decide_eq_false_iff_not, Bool.not_eq_true, Bool.not_eq_false, Bool.not_not, Bool.not_eq_eq_eq_not, Bool.not_true, Bool.not_false, Bool.false_eq_true, Bool.true_eq_false, ne_eq, Decidable.not_not, not_false_eq_true, not_true_eq_false] at c65
              refine exit ?_
              show Code.wp _ _ _ _ _
              refine seq ?_
              refine cutK (fun f => f 2 = .int .i64 start ∧ f 5 = .pointer (some ⟨b5, 0, none⟩) ∧ f 12 = .slice ao (playO c acts).length co ∧ f 13 = dv ∧ f 14 = tv ∧ f 15 = fv ∧ f 16 = .int .i64 (k : Int) ∧ f 17 = .pointer (some ⟨b17, 0, none⟩) ∧ f 18 = .int .i64 own ∧ True) ⟨h2, h5, h12, h13, h14, h15, h16, h17, h18, trivial⟩ ?_
              rintro f ⟨h2, h5, h12, h13, h14, h15, h16, h17, h18, -⟩
              refine region ?_
              refine sv (yMove h13) ?_
              refine sv (yMove h18) ?_
              refine sbslice hS Tryz.underlying37 Tryz.sizeOf3 rfl Tryz.zeroValue3 rfl (.cons rfl rfl .nil) rfl ?_; clear hS; intro b104 w hS
              refine sapp (bytes := 8) (size := 1) (v := dv) (m := 1) hS rfl rfl Tryz.underlying37 ti3 rfl rfl rfl rfl (by decide) (blk_cells (hS.at _)) rfl rfl (by omega) (by omega) ?_; clear hS; intro v105 w hS
              refine sv (yAsg rfl) ?_
              refine nil ?_
              show Code.wp _ _ _ _ _
              refine seq ?_
              refine seq ?_
              refine region ?_
              refine sv (yMove h18) ?_
              refine sv (yLss rfl rfl) ?_
              refine nil ?_
              show Code.wp _ _ _ _ _
              refine cond rfl (fun c107 => ?_) (fun c107 => ?_)
              ·
                simp only [Bool.and_eq_true, Bool.or_eq_true, Bool.and_eq_false_iff, Bool.or_eq_false_iff, decide_eq_true_eq, decide_eq_false_iff_not, Bool.not_eq_true, Bool.not_eq_false, Bool.not_not, Bool.not_eq_eq_eq_not, Bool.not_true, Bool.not_false, Bool.false_eq_true, Bool.true_eq_false, ne_eq, Decidable.not_not, not_false_eq_true, not_true_eq_false] at c107
                obtain ⟨hR2, hflt⟩ := rj_none (i := k) (x := x) hR (fun r hr => by rcases hown with h9 | ⟨r9, _, h9, _⟩; exact h9.2 r (by omega); omega)
                obtain rfl : own = -1 := by rcases hown with h9 | ⟨r9, _, h9, _⟩; exact h9.1; omega
                refine seq ?_
                refine region ?_
                refine sv (yMove h15) ?_
                refine sv (yMove h16) ?_
                refine sv (yBuild Tryz.zeroValue52 rfl pl52 (.cons rfl rfl (.cons rfl rfl .nil)) rfl) ?_
                refine sbslice hS Tryz.underlying48 Tryz.sizeOf52 rfl Tryz.zeroValue52 rfl (.cons rfl rfl .nil) rfl ?_; clear hS; intro b111 w hS
                refine sapp (bytes := 16) (size := 2) (v := fv) (m := 1) hS rfl rfl Tryz.underlying48 ti52 rfl rfl rfl rfl (by decide) (blk_cells (hS.at _)) rfl rfl (by omega) (by omega) ?_; clear hS; intro v112 w hS
                refine sv (yAsg rfl) ?_
                refine nil ?_
                show Code.wp _ _ _ _ _
                refine exit ?_
                exact ⟨_, rfl, dn ++ [-1], tk, _, _, _, _, h2, h5, h12, rfl, h14, rfl, h16, (by rw [hjs, hflt]; simp only [List.flatMap_append, List.length_append]; exact hS.sub (.cons _ (.cons _ (.cons _ (List.Sublist.refl _))))), (by omega), (by simp [hdl]), (by omega), (htb), (by rw [hjs]; exact hR2), trivial⟩
              ·
                simp only [Bool.and_eq_true, Bool.or_eq_true, Bool.and_eq_false_iff, Bool.or_eq_false_iff, decide_eq_true_eq, decide_eq_false_iff_not, Bool.not_eq_true, Bool.not_eq_false, Bool.not_not, Bool.not_eq_eq_eq_not, Bool.not_true, Bool.not_false, Bool.false_eq_true, Bool.true_eq_false, ne_eq, Decidable.not_not, not_false_eq_true, not_true_eq_false] at c107
                obtain ⟨r, hrl, rfl, hh, hN⟩ := hown.resolve_left (fun h9 => by rw [h9.1] at c107; exact c107 (by decide))
                obtain ⟨hR2, hflt⟩ := rj_some (i := k) hR hrl hh hN
                refine skip ?_
                show Code.wp _ _ _ _ _
                refine seq ?_
                refine region ?_
                refine sv (yMove h14) ?_
                refine sv (yMove h18) ?_
                refine sbslice hS Tryz.underlying37 Tryz.sizeOf3 rfl Tryz.zeroValue3 rfl (.cons rfl rfl .nil) rfl ?_; clear hS; intro b115 w hS
                refine sapp (bytes := 8) (size := 1) (v := tv) (m := 1) hS rfl rfl Tryz.underlying37 ti3 rfl rfl rfl rfl (by decide) (blk_cells (hS.at _)) rfl rfl (by omega) (by omega) ?_; clear hS; intro v116 w hS
                refine sv (yAsg rfl) ?_
                refine nil ?_
                show Code.wp _ _ _ _ _
                refine seq ?_
                refine region ?_
                have hS9 := hS.sub (.cons _ (.cons _ (List.Sublist.refl _)))
                clear hS
                have hS : StX [] w0 w [blk b17 (stpC x) 78, rowI v105 3 1 (k + 1) ((dn ++ [(r : Int)]).flatMap Bx.encI), rowI v116 3 1 (tk.length + 1) ((tk ++ [(r : Int)]).flatMap Bx.encI), rowI fv 52 2 ((judN s start (leftJ c acts start) k)).flt.length (((judN s start (leftJ c acts start) k)).flt.flatMap pC), rowI (.slice ao (playO c acts).length co) 66 5 (playO c acts).length ((playO c acts).flatMap ordC), blk b5 [.string s.name, .slice ax s.steps.length cps] 45] := by rw [← snocI dn, ← snocI tk]; exact hS9
                clear hS9
                refine sv (yMove h2) ?_
                refine sv (yAsg rfl) ?_
                refine nil ?_
                show Code.wp _ _ _ _ _
                refine seqJ (n := 167) (fun f w => ∃ (b : Int) (dv tv fv : Value) (ao : Option Addr), f 2 = .int .i64 start ∧ f 5 = .pointer (some ⟨b5, 0, none⟩) ∧ f 12 = .slice ao (playO c acts).length co ∧ f 13 = dv ∧ f 14 = tv ∧ f 15 = fv ∧ f 16 = .int .i64 (k : Int) ∧ f 17 = .pointer (some ⟨b17, 0, none⟩) ∧ f 18 = .int .i64 (r : Int) ∧ f 20 = .int .i64 b ∧ StX [] w0 w [blk b17 (stpC x) 78, rowI dv 3 1 (k + 1) ((dn ++ [(r : Int)]).flatMap Bx.encI), rowI tv 3 1 (tk.length + 1) ((tk ++ [(r : Int)]).flatMap Bx.encI), rowI fv 52 2 ((judN s start (leftJ c acts start) k)).flt.length (((judN s start (leftJ c acts start) k)).flt.flatMap pC), rowI (.slice ao (playO c acts).length co) 66 5 (playO c acts).length ((playO c acts).flatMap ordC), blk b5 [.string s.name, .slice ax s.steps.length cps] 45] ∧ (0 ≤ b ∧ b ≤ 100000) ∧ (befJ start (judN s start (leftJ c acts start) k).done x.after = some b) ∧ True) ?_ ?_
                ·
                  refine seq ?_
                  refine region ?_
                  refine sv (fa78_2 h17) ?_
                  refine sv (yLdB rfl Tryz.isAgg3 (hS.at _) rfl) ?_
                  refine sv (yGeq rfl rfl) ?_
                  refine nil ?_
                  show Code.wp _ _ _ _ _
                  refine cond rfl (fun c120 => ?_) (fun c120 => ?_)
                  ·
                    simp only [Bool.and_eq_true, Bool.or_eq_true, Bool.and_eq_false_iff, Bool.or_eq_false_iff, decide_eq_true_eq, decide_eq_false_iff_not, Bool.not_eq_true, Bool.not_eq_false, Bool.not_not, Bool.not_eq_eq_eq_not, Bool.not_true, Bool.not_false, Bool.false_eq_true, Bool.true_eq_false, ne_eq, Decidable.not_not, not_false_eq_true, not_true_eq_false] at c120
                    obtain ⟨a9, ha9⟩ := Int.eq_ofNat_of_zero_le c120
                    obtain ⟨d, hzd, -⟩ := drop_of (l := dn ++ [(r : Int)]) (k := a9) (by simp; omega)
                    have hzd0 : dn[a9]? = some d := by rw [List.getElem?_append_left (by omega)] at hzd; exact hzd
                    have hdb := hR.bd d (List.mem_of_getElem? hzd0)
                    have hbe := rj_bef hR ha9 hzd0
                    obtain ⟨gd, cd, rfl, -⟩ := row_some (hS.row v105) (Nat.succ_pos _)
                    refine seq ?_
                    refine seq ?_
                    refine region ?_
                    refine sv (yMove rfl) ?_
                    refine sv (fa78_2 h17) ?_
                    refine sv (yLdB rfl Tryz.isAgg3 (hS.at _) rfl) ?_
                    refine sv (yIx0 rfl (rfl.trans (congrArg (Value.int .i64) ha9)) Tryz.runUnderlying37 Tryz.sizeOf3 (by omega)) ?_
                    refine sv (yLd rfl Tryz.isAgg3 ((flat_cells0 (enc := Bx.encI) encI_len (row_at (hS.row (.slice (some ⟨gd, 0, none⟩) (k + 1) cd)) rfl (by omega)) hzd).one)) ?_
                    refine sv (yLss rfl rfl) ?_
                    refine nil ?_
                    show Code.wp _ _ _ _ _
                    refine cond rfl (fun c126 => ?_) (fun c126 => ?_)
                    ·
                      simp only [Bool.and_eq_true, Bool.or_eq_true, Bool.and_eq_false_iff, Bool.or_eq_false_iff, decide_eq_true_eq, decide_eq_false_iff_not, Bool.not_eq_true, Bool.not_eq_false, Bool.not_not, Bool.not_eq_eq_eq_not, Bool.not_true, Bool.not_false, Bool.false_eq_true, Bool.true_eq_false, ne_eq, Decidable.not_not, not_false_eq_true, not_true_eq_false] at c126
                      refine exit ?_
                      have hbn := hbe.trans (if_pos c126)
                      have hfl9 := hflt.trans ((congrArg (fun z => (judN s start (leftJ c acts start) k).flt ++ fltJ k x (ordAt (playO c acts) r).tm z) hbn).trans (List.append_nil _))
                      exact ⟨_, rfl, dn ++ [(r : Int)], tk ++ [(r : Int)], _, _, _, _, h2, h5, h12, rfl, rfl, h15, h16, (by rw [hjs, hfl9]; rw [show (tk ++ [(r : Int)]).length = tk.length + 1 by simp]; exact hS.sub (.cons _ (List.Sublist.refl _))), (by omega), (by simp [hdl]), (by simp; omega), (fun y hy => by rcases List.mem_append.1 hy with h9 | h9; exact htb y h9; rw [List.mem_singleton.1 h9]; omega), (by rw [hjs]; exact hR2), trivial⟩
                    ·
                      simp only [Bool.and_eq_true, Bool.or_eq_true, Bool.and_eq_false_iff, Bool.or_eq_false_iff, decide_eq_true_eq, decide_eq_false_iff_not, Bool.not_eq_true, Bool.not_eq_false, Bool.not_not, Bool.not_eq_eq_eq_not, Bool.not_true, Bool.not_false, Bool.false_eq_true, Bool.true_eq_false, ne_eq, Decidable.not_not, not_false_eq_true, not_true_eq_false] at c126
                      obtain ⟨dq, hd9⟩ := Int.eq_ofNat_of_zero_le (show 0 ≤ d by omega)
                      obtain ⟨od, hxd, -⟩ := drop_of (l := playO c acts) (k := dq) (by omega)
                      have hod := hlt od (List.mem_of_getElem? hxd)
                      obtain ⟨go, rfl, -⟩ := row_get (hS.row (.slice ao (playO c acts).length co)) (by omega)
                      refine skip ?_
                      show Code.wp _ _ _ _ _
                      refine region ?_
                      refine sv (yMove h12) ?_
                      refine sv (yMove rfl) ?_
                      refine sv (fa78_2 h17) ?_
                      refine sv (yLdB rfl Tryz.isAgg3 (hS.at _) rfl) ?_
                      refine sv (yIx0 rfl (rfl.trans (congrArg (Value.int .i64) ha9)) Tryz.runUnderlying37 Tryz.sizeOf3 (by omega)) ?_
                      refine sv (yLd rfl Tryz.isAgg3 ((flat_cells0 (enc := Bx.encI) encI_len (row_at (hS.row (.slice (some ⟨gd, 0, none⟩) (k + 1) cd)) rfl (by omega)) hzd).one)) ?_
                      refine sv (yIx0 rfl (rfl.trans (congrArg (Value.int .i64) hd9)) Tryz.runUnderlying33 Tryz.sizeOf66 (by omega)) ?_
                      refine sv (fa66_4 rfl) ?_
                      refine sv (yLd rfl Tryz.isAgg3 ((flat_cells0 ordC_len (row_at (hS.row (.slice (some ⟨go, 0, none⟩) (playO c acts).length co)) rfl (by omega)) hxd).at (j := 4) rfl)) ?_
                      refine sv (yAsg rfl) ?_
                      refine nil ?_
                      exact ⟨_, rfl, od.tm, _, _, _, _, h2, h5, h12, rfl, rfl, h15, h16, h17, h18, rfl, hS, (hod), (by rw [hbe, if_neg c126, hd9, Int.toNat_natCast, ordAt_hit hxd]), trivial⟩
                  ·
                    simp only [Bool.and_eq_true, Bool.or_eq_true, Bool.and_eq_false_iff, Bool.or_eq_false_iff, decide_eq_true_eq, decide_eq_false_iff_not, Bool.not_eq_true, Bool.not_eq_false, Bool.not_not, Bool.not_eq_eq_eq_not, Bool.not_true, Bool.not_false, Bool.false_eq_true, Bool.true_eq_false, ne_eq, Decidable.not_not, not_false_eq_true, not_true_eq_false] at c120
                    refine skip ?_
                    exact ⟨_, rfl, start, _, _, _, _, h2, h5, h12, rfl, rfl, h15, h16, h17, h18, rfl, hS, (hnv2), (rj_bef0 hR (by omega)), trivial⟩
                ·
                  clear hS; rintro f w ⟨b, dv, tv, fv, ao, h2, h5, h12, h13, h14, h15, h16, h17, h18, h20, hS, hbb, hbe, -⟩
                  refine seq ?_
                  refine region_draw mixed (by kernel_rfl) hS ?_
                  obtain ⟨o, hxo, -⟩ := drop_of (l := playO c acts) (k := r) (by omega)
                  obtain ⟨go, rfl, -⟩ := row_get (hS.row (.slice ao (playO c acts).length co)) (by omega)
                  have hotm := hlt o (List.mem_of_getElem? hxo)
                  rw [ordAt_hit hxo] at hflt
                  rw [hbe] at hflt
                  refine qv (fun w hS => (yMove h12)) ?_
                  refine qv (fun w hS => (yMove h18)) ?_
                  refine qv (fun w hS => (yIx0 rfl rfl Tryz.runUnderlying33 Tryz.sizeOf66 (by omega))) ?_
                  refine qv (fun w hS => (fa66_4 rfl)) ?_
                  refine qv (fun w hS => (yLd rfl Tryz.isAgg3 ((flat_cells0 ordC_len (row_at (hS.row (.slice (some ⟨go, 0, none⟩) (playO c acts).length co)) rfl (by omega)) hxo).at (j := 4) rfl))) ?_
                  refine qv (fun w hS => (yMove h20)) ?_
                  refine qv (fun w hS => (fa78_3 h17)) ?_
                  refine qv (fun w hS => (yLdB rfl Tryz.isAgg3 (hS.at _) rfl)) ?_
                  refine qv (fun w hS => (yAdd rfl rfl ⟨by omega, by omega⟩)) ?_
                  refine qv (fun w hS => (yLss rfl rfl)) ?_
                  clear hS; refine qnil (fun w hS => ?_)
                  show Code.wp _ _ _ _ _
                  refine cond rfl (fun c145 => ?_) (fun c145 => ?_)
                  ·
                    simp only [Bool.and_eq_true, Bool.or_eq_true, Bool.and_eq_false_iff, Bool.or_eq_false_iff, decide_eq_true_eq, decide_eq_false_iff_not, Bool.not_eq_true, Bool.not_eq_false, Bool.not_not, Bool.not_eq_eq_eq_not, Bool.not_true, Bool.not_false, Bool.false_eq_true, Bool.true_eq_false, ne_eq, Decidable.not_not, not_false_eq_true, not_true_eq_false] at c145
                    refine region ?_
                    refine sv (yMove h15) ?_
                    refine sv (yMove h16) ?_
                    refine sv (yBuild Tryz.zeroValue52 rfl pl52 (.cons rfl rfl (.cons rfl rfl .nil)) rfl) ?_
                    refine sbslice hS Tryz.underlying48 Tryz.sizeOf52 rfl Tryz.zeroValue52 rfl (.cons rfl rfl .nil) rfl ?_; clear hS; intro b149 w hS
                    refine sapp (bytes := 16) (size := 2) (v := fv) (m := 1) hS rfl rfl Tryz.underlying48 ti52 rfl rfl rfl rfl (by decide) (blk_cells (hS.at _)) rfl rfl (by omega) (by omega) ?_; clear hS; intro v150 w hS
                    refine sv (yAsg rfl) ?_
                    refine nil ?_
                    have hfl9 := hflt.trans (congrArg _ (fltJ_1 (i := k) (b := some b) (by rfl) c145))
                    exact ⟨_, rfl, dn ++ [(r : Int)], tk ++ [(r : Int)], _, _, _, _, h2, h5, h12, h13, h14, rfl, h16, (by rw [hjs, hfl9]; rw [show (tk ++ [(r : Int)]).length = tk.length + 1 by simp]; rw [List.length_append, List.flatMap_append (f := pC)]; exact hS.sub (.cons _ (.cons _ (List.Sublist.refl _)))), (by omega), (by simp [hdl]), (by simp; omega), (fun y hy => by rcases List.mem_append.1 hy with h9 | h9; exact htb y h9; rw [List.mem_singleton.1 h9]; omega), (by rw [hjs]; exact hR2), trivial⟩
                  ·
                    simp only [Bool.and_eq_true, Bool.or_eq_true, Bool.and_eq_false_iff, Bool.or_eq_false_iff, decide_eq_true_eq, decide_eq_false_iff_not, Bool.not_eq_true, Bool.not_eq_false, Bool.not_not, Bool.not_eq_eq_eq_not, Bool.not_true, Bool.not_false, Bool.false_eq_true, Bool.true_eq_false, ne_eq, Decidable.not_not, not_false_eq_true, not_true_eq_false] at c145
                    refine seq ?_
                    refine region_draw mixed (by kernel_rfl) hS ?_
                    refine qv (fun w hS => (yMove h12)) ?_
                    refine qv (fun w hS => (yMove h18)) ?_
                    refine qv (fun w hS => (yIx0 rfl rfl Tryz.runUnderlying33 Tryz.sizeOf66 (by omega))) ?_
                    refine qv (fun w hS => (fa66_4 rfl)) ?_
                    refine qv (fun w hS => (yLd rfl Tryz.isAgg3 ((flat_cells0 ordC_len (row_at (hS.row (.slice (some ⟨go, 0, none⟩) (playO c acts).length co)) rfl (by omega)) hxo).at (j := 4) rfl))) ?_
                    refine qv (fun w hS => (yMove h20)) ?_
                    refine qv (fun w hS => (fa78_4 h17)) ?_
                    refine qv (fun w hS => (yLdB rfl Tryz.isAgg3 (hS.at _) rfl)) ?_
                    refine qv (fun w hS => (yAdd rfl rfl ⟨by omega, by omega⟩)) ?_
                    refine qv (fun w hS => (yGtr rfl rfl)) ?_
                    clear hS; refine qnil (fun w hS => ?_)
                    show Code.wp _ _ _ _ _
                    refine cond rfl (fun c160 => ?_) (fun c160 => ?_)
                    ·
                      simp only [Bool.and_eq_true, Bool.or_eq_true, Bool.and_eq_false_iff, Bool.or_eq_false_iff, decide_eq_true_eq, decide_eq_false_iff_not, Bool.not_eq_true, Bool.not_eq_false, Bool.not_not, Bool.not_eq_eq_eq_not, Bool.not_true, Bool.not_false, Bool.false_eq_true, Bool.true_eq_false, ne_eq, Decidable.not_not, not_false_eq_true, not_true_eq_false] at c160
                      refine region ?_
                      refine sv (yMove h15) ?_
                      refine sv (yMove h16) ?_
                      refine sv (yBuild Tryz.zeroValue52 rfl pl52 (.cons rfl rfl (.cons rfl rfl .nil)) rfl) ?_
                      refine sbslice hS Tryz.underlying48 Tryz.sizeOf52 rfl Tryz.zeroValue52 rfl (.cons rfl rfl .nil) rfl ?_; clear hS; intro b164 w hS
                      refine sapp (bytes := 16) (size := 2) (v := fv) (m := 1) hS rfl rfl Tryz.underlying48 ti52 rfl rfl rfl rfl (by decide) (blk_cells (hS.at _)) rfl rfl (by omega) (by omega) ?_; clear hS; intro v165 w hS
                      refine sv (yAsg rfl) ?_
                      refine nil ?_
                      have hfl9 := hflt.trans (congrArg _ (fltJ_2 (i := k) (b := some b) (by rfl) c145 c160))
                      exact ⟨_, rfl, dn ++ [(r : Int)], tk ++ [(r : Int)], _, _, _, _, h2, h5, h12, h13, h14, rfl, h16, (by rw [hjs, hfl9]; rw [show (tk ++ [(r : Int)]).length = tk.length + 1 by simp]; rw [List.length_append, List.flatMap_append (f := pC)]; exact hS.sub (.cons _ (.cons _ (List.Sublist.refl _)))), (by omega), (by simp [hdl]), (by simp; omega), (fun y hy => by rcases List.mem_append.1 hy with h9 | h9; exact htb y h9; rw [List.mem_singleton.1 h9]; omega), (by rw [hjs]; exact hR2), trivial⟩
                    ·
                      simp only [Bool.and_eq_true, Bool.or_eq_true, Bool.and_eq_false_iff, Bool.or_eq_false_iff, decide_eq_true_eq, decide_eq_false_iff_not, Bool.not_eq_true, Bool.not_eq_false, Bool.not_not, Bool.not_eq_eq_eq_not, Bool.not_true, Bool.not_false, Bool.false_eq_true, Bool.true_eq_false, ne_eq, Decidable.not_not, not_false_eq_true, not_true_eq_false] at c160
                      refine skip ?_
                      have hfl9 := (hflt.trans (congrArg _ (fltJ_0 (i := k) (b := some b) (.inr c145) (.inr c160)))).trans (List.append_nil _)
                      exact ⟨_, rfl, dn ++ [(r : Int)], tk ++ [(r : Int)], _, _, _, _, h2, h5, h12, h13, h14, h15, h16, (by rw [hjs, hfl9]; rw [show (tk ++ [(r : Int)]).length = tk.length + 1 by simp]; exact hS.sub (.cons _ (List.Sublist.refl _))), (by omega), (by simp [hdl]), (by simp; omega), (fun y hy => by rcases List.mem_append.1 hy with h9 | h9; exact htb y h9; rw [List.mem_singleton.1 h9]; omega), (by rw [hjs]; exact hR2), trivial⟩
          ·
            clear hS; rintro f w ⟨dn, tk, dv, tv, fv, ao, h2, h5, h12, h13, h14, h15, h16, hS, hk2, hdl2, htl2, htb2, hR3, -⟩
            refine region ?_
            refine sv (yMove h16) ?_
            refine sv (yAdd rfl rfl ⟨by omega, by omega⟩) ?_
            refine sv (yAsg rfl) ?_
            refine nil ?_
            exact ⟨_, _, rfl, ⟨k + 1, dn, tk, dv, tv, fv, ao, h2, h5, h12, h13, h14, h15, rfl, hS, (hk2), (hdl2), (htl2), (htb2), (hR3), rfl⟩, by omega⟩
        ·
          simp only [Bool.and_eq_true, Bool.or_eq_true, Bool.and_eq_false_iff, Bool.or_eq_false_iff, decide_eq_true_eq, decide_eq_false_iff_not, Bool.not_eq_true, Bool.not_eq_false, Bool.not_not, Bool.not_eq_eq_eq_not, Bool.not_true, Bool.not_false, Bool.false_eq_true, Bool.true_eq_false, ne_eq, Decidable.not_not, not_false_eq_true, not_true_eq_false] at c50
          refine exit ?_
          show Code.wp _ _ _ _ _
          refine seq ?_
          refine region ?_
          refine sv (yMove h15) ?_
          refine sv (yAsg rfl) ?_
          refine sv (yAsg rfl) ?_
          refine nil ?_
          show Code.wp _ _ _ _ _
          refine wp_ret ?_
          refine retQ (res2 rfl rfl rfl) ?_
          obtain rfl : k = s.steps.length := by omega
          exact ⟨fv, by (rw [hfin.1]; try rfl), by rw [hfin.2]; exact hS.sub (.cons _ (.cons _ (.cons_cons _ (List.nil_sublist _))))⟩
set_option maxHeartbeats 4000000 in
/-- barrage/barragelaw10.CrewJudges -/
theorem w_CrewJudges {c : Crew} {cs xs : List Value} {x : Drl} {w0 : World} (h : RCrew w0 cs c) (hx : RDrl w0 xs x) : CV Tryz.prog 4 #[.agg cs.toArray, .agg xs.toArray] w0 (.bool true) := by
  obtain ⟨ov, kv, nv, rfl, hso, hsk, hsn, hrm⟩ := id h
  obtain ⟨a, cap, rfl, hcap, hmx, hel⟩ := id hso
  obtain ⟨sv, av, rfl, hsz, hst, hsi, ha⟩ := id hx
  have hs : RScr w0 [.string x.script.name, sv] x.script := ⟨sv, rfl, hsz, hst⟩
  obtain ⟨ax, cps, rfl, hscap, hsmx, hels⟩ := id hst
  obtain ⟨aa, ca, rfl, hacap, hamx, hela⟩ := id ha
  refine enter Tryz.func4 rfl Tryz.ntmps4 rfl ?_
  have hS := St.start w0
  refine seq ?_
  refine region ?_
  refine sbox hS rfl rfl ?_; clear hS; intro b2 w hS
  refine sbox hS rfl rfl ?_; clear hS; intro b3 w hS
  refine sv (yAsg rfl) ?_
  refine nil ?_
  show Code.wp _ _ _ _ _
  refine seq ?_
  refine region ?_
  replace hS : StX [] w0 w (blk b3 [.string x.script.name, .slice ax x.script.steps.length cps, .int .i64 x.start, .slice aa x.acts.length ca] 47 :: blk b2 [.slice a c.ops.length cap, kv, nv] 26 :: []) := hS
  refine sv (yLdBA rfl Tryz.isAgg26 Tryz.sizeOf26 (hS.at _) rfl rfl) ?_
  refine sv (fa47_0 rfl) ?_
  refine sv (yLdBA rfl Tryz.isAgg45 Tryz.sizeOf45 (hS.at _) rfl rfl) ?_
  refine sv (fa47_1 rfl) ?_
  refine sv (yLdB rfl Tryz.isAgg3 (hS.at _) rfl) ?_
  refine sv (fa47_2 rfl) ?_
  refine sv (yLdB rfl Tryz.isAgg27 (hS.at _) rfl) ?_
  refine scall Tryz.call15 (.cons rfl (.cons rfl (.cons rfl (.cons rfl .nil)))) (c_Judge (h.ext hS.ext) (hs.ext hS.ext) hsi (ha.ext RAct.stays hS.ext)) ?_
  rintro _ w ⟨v1, rfl, hM⟩; replace hS := hS.call1 hM; clear hM
  refine sv (yMove rfl) ?_
  refine sv (yExt rfl rfl) ?_
  refine sv (yExt rfl rfl) ?_
  refine sv (yAsg rfl) ?_
  refine sv (yAsg rfl) ?_
  refine nil ?_
  show Code.wp _ _ _ _ _
  refine seq ?_
  refine region ?_
  refine sv (yLdBA rfl Tryz.isAgg26 Tryz.sizeOf26 (hS.at _) rfl rfl) ?_
  refine sv (fa47_0 rfl) ?_
  refine sv (yLdBA rfl Tryz.isAgg45 Tryz.sizeOf45 (hS.at _) rfl rfl) ?_
  refine sv (fa47_1 rfl) ?_
  refine sv (yLdB rfl Tryz.isAgg3 (hS.at _) rfl) ?_
  refine sv (fa47_2 rfl) ?_
  refine sv (yLdB rfl Tryz.isAgg27 (hS.at _) rfl) ?_
  refine scall Tryz.call16 (.cons rfl (.cons rfl (.cons rfl (.cons rfl .nil)))) (c_rJudge (h.ext hS.ext) (hs.ext hS.ext) hsi (ha.ext RAct.stays hS.ext)) ?_
  rintro _ w ⟨v2, rfl, hM⟩; replace hS := hS.call1 hM; clear hM
  refine sv (yMove rfl) ?_
  refine sv (yExt rfl rfl) ?_
  refine sv (yExt rfl rfl) ?_
  refine sv (yAsg rfl) ?_
  refine sv (yAsg rfl) ?_
  refine nil ?_
  show Code.wp _ _ _ _ _
  refine seq ?_
  refine seq ?_
  refine region ?_
  obtain ⟨a1, c1, rfl⟩ := row_shape (hS.row v1)
  obtain ⟨a2, c2, rfl⟩ := row_shape (hS.row v2)
  refine sv (yMove rfl) ?_
  refine sv (yMove rfl) ?_
  refine sv (yNeq rfl rfl) ?_
  refine sv (yMove rfl) ?_
  refine sg rfl rfl rfl (fun g => (yMove rfl)) (fun v36 g36 => ?_)
  refine sg rfl rfl rfl (fun g => (yLen (g36.1 g) Tryz.underlying48)) (fun v37 g37 => ?_)
  refine sg rfl rfl rfl (fun g => (yMove rfl)) (fun v38 g38 => ?_)
  refine sg rfl rfl rfl (fun g => (yLen (g38.1 g) Tryz.underlying48)) (fun v39 g39 => ?_)
  refine sg rfl rfl rfl (fun g => (yNeq (g37.1 g) (g39.1 g))) (fun v40 g40 => ?_)
  refine sv (yOr rfl rfl (fun hB => (g40.1 hB))) ?_
  refine nil ?_
  show Code.wp _ _ _ _ _
  refine cond rfl (fun c41 => ?_) (fun c41 => ?_)
  ·
    simp only [Bool.and_eq_true, Bool.or_eq_true, Bool.and_eq_false_iff, Bool.or_eq_false_iff, decide_eq_true_eq, decide_eq_false_iff_not, Bool.not_eq_true, Bool.not_eq_false, Bool.not_not, Bool.not_eq_eq_eq_not, Bool.not_true, Bool.not_false, Bool.false_eq_true, Bool.true_eq_false, ne_eq, Decidable.not_not, not_false_eq_true, not_true_eq_false] at c41
    exfalso; simp at c41
  ·
    simp only [Bool.and_eq_true, Bool.or_eq_true, Bool.and_eq_false_iff, Bool.or_eq_false_iff, decide_eq_true_eq, decide_eq_false_iff_not, Bool.not_eq_true, Bool.not_eq_false, Bool.not_not, Bool.not_eq_eq_eq_not, Bool.not_true, Bool.not_false, Bool.false_eq_true, Bool.true_eq_false, ne_eq, Decidable.not_not, not_false_eq_true, not_true_eq_false] at c41
    refine skip ?_
    show Code.wp _ _ _ _ _
    refine seq ?_
    refine seq ?_
    refine region ?_
    refine sv (yAsg rfl) ?_
    refine nil ?_
    show Code.wp _ _ _ _ _
    refine block ?_
    refine loop (fun f w zz => ∃ (k : Nat) (a1 a2 : Option Addr), f 5 = .slice a1 (judL c x.script x.start x.acts).length c1 ∧ f 7 = .slice a2 (judL c x.script x.start x.acts).length c2 ∧ f 9 = .int .i64 (k : Int) ∧ StX [] w0 w [rowI (.slice a2 (judL c x.script x.start x.acts).length c2) 52 2 (judL c x.script x.start x.acts).length ((judL c x.script x.start x.acts).flatMap pC), rowI (.slice a1 (judL c x.script x.start x.acts).length c1) 52 2 (judL c x.script x.start x.acts).length ((judL c x.script x.start x.acts).flatMap pC)] ∧ (k ≤ (judL c x.script x.start x.acts).length) ∧ zz = (judL c x.script x.start x.acts).length - k) _ ⟨_, rfl, 0, a1, a2, rfl, rfl, rfl, (hS.sub (.cons_cons _ (.cons_cons _ (List.nil_sublist _)))), (Nat.zero_le _), rfl⟩ ?_
    clear hS
    rintro f w _ ⟨k, a1, a2, h5, h7, h9, hS, hk, rfl⟩
    refine seq ?_
    refine seq ?_
    refine region ?_
    refine sv (yMove h9) ?_
    refine sv (yMove h5) ?_
    refine sv (yLen rfl Tryz.underlying48) ?_
    refine sv (yLss rfl rfl) ?_
    refine nil ?_
    show Code.wp _ _ _ _ _
    refine cond rfl (fun c45 => ?_) (fun c45 => ?_)
    ·
      simp only [Bool.and_eq_true, Bool.or_eq_true, Bool.and_eq_false_iff, Bool.or_eq_false_iff, decide_eq_true_eq, decide_eq_false_iff_not, Bool.not_eq_true, Bool.not_eq_false, Bool.not_not, Bool.not_eq_eq_eq_not, Bool.not_true, Bool.not_false, Bool.false_eq_true, Bool.true_eq_false, ne_eq, Decidable.not_not, not_false_eq_true, not_true_eq_false] at c45
      refine skip ?_
      show Code.wp _ _ _ _ _
      refine seq ?_
      refine block ?_
      refine seq ?_
      refine region_draw mixed (by kernel_rfl) hS ?_
      obtain ⟨p, hxp, -⟩ := drop_of (l := judL c x.script x.start x.acts) (k := k) (by omega)
      have hb9 : (judL c x.script x.start x.acts).length ≤ 9223372036854775807 := by obtain ⟨_, _, _, q1, q2, _⟩ := row_some (hS.row (.slice a1 (judL c x.script x.start x.acts).length c1)) (by omega); omega
      obtain ⟨g1, rfl, -⟩ := row_get (hS.row (.slice a1 (judL c x.script x.start x.acts).length c1)) (by omega)
      obtain ⟨g2, rfl, -⟩ := row_get (hS.row (.slice a2 (judL c x.script x.start x.acts).length c2)) (by omega)
      refine qv (fun w hS => (yMove h5)) ?_
      refine qv (fun w hS => (yMove h9)) ?_
      refine qv (fun w hS => (yIx0 rfl rfl Tryz.runUnderlying48 Tryz.sizeOf52 (by omega))) ?_
      refine qv (fun w hS => (yLdA rfl Tryz.isAgg52 Tryz.sizeOf52 (flat_cells0 pC_len (row_at (hS.row (.slice (some ⟨g1, 0, none⟩) (judL c x.script x.start x.acts).length c1)) rfl (by omega)) hxp) rfl)) ?_
      refine qv (fun w hS => (yMove h7)) ?_
      refine qv (fun w hS => (yMove h9)) ?_
      refine qv (fun w hS => (yIx0 rfl rfl Tryz.runUnderlying48 Tryz.sizeOf52 (by omega))) ?_
      refine qv (fun w hS => (yLdA rfl Tryz.isAgg52 Tryz.sizeOf52 (flat_cells0 pC_len (row_at (hS.row (.slice (some ⟨g2, 0, none⟩) (judL c x.script x.start x.acts).length c2)) rfl (by omega)) hxp) rfl)) ?_
      refine qv (fun w hS => (neS52 rfl rfl)) ?_
      clear hS; refine qnil (fun w hS => ?_)
      show Code.wp _ _ _ _ _
      refine cond rfl (fun c56 => ?_) (fun c56 => ?_)
      ·
        exfalso; simp at c56
      ·
        refine skip ?_
        show Code.wp _ _ _ _ _
        refine region ?_
        refine sv (yMove h9) ?_
        refine sv (yAdd rfl rfl ⟨by omega, by omega⟩) ?_
        refine sv (yAsg rfl) ?_
        refine nil ?_
        exact ⟨_, _, rfl, ⟨k + 1, _, _, h5, h7, rfl, hS, (by omega), rfl⟩, by omega⟩
    ·
      simp only [Bool.and_eq_true, Bool.or_eq_true, Bool.and_eq_false_iff, Bool.or_eq_false_iff, decide_eq_true_eq, decide_eq_false_iff_not, Bool.not_eq_true, Bool.not_eq_false, Bool.not_not, Bool.not_eq_eq_eq_not, Bool.not_true, Bool.not_false, Bool.false_eq_true, Bool.true_eq_false, ne_eq, Decidable.not_not, not_false_eq_true, not_true_eq_false] at c45
      refine exit ?_
      show Code.wp _ _ _ _ _
      refine seq ?_
      refine region ?_
      refine scall Tryz.call14 .nil c_Awake ?_
      rintro _ w ⟨rfl, hE⟩; replace hS := hS.step hE; clear hE
      refine sv (yAsg rfl) ?_
      refine nil ?_
      show Code.wp _ _ _ _ _
      refine wp_ret ?_
      exact retV (res1 rfl rfl) hS.ext
end Go.Proofs.YtghgnofilbnbaaaGreat
/- part LibM -/
namespace Bx
open Go Go.RowKit
def WOk {H : Type} (P : Program) (t : TypeId) (d : DataW H) : Prop := ∀ n ∈ d.weights P t, n ≤ 140737488351232
def RdW {α : Type} (P : Program) (t : TypeId) (R : World → List Value → α → Prop) : Prop :=
  ∀ (H : Type) (enc : TypeId × Value → H) (w : World) (base : Nat) (spare : Nat → Bool) (held : Bool) (fuel : Nat) (cs : List Value) (x : DataW H × List MemPlace), DataW.trod enc P w base spare held fuel t cs = some x → WOk P t x.1 → ∃ a, R w cs a
theorem Rd.w {α : Type} {P : Program} {t : TypeId} {R : World → List Value → α → Prop} (h : Rd P t R) : RdW P t R := fun H enc w base spare held fuel cs x hx _ => h H enc w base spare held fuel cs x hx
section
variable {P : Program} {t e : TypeId}
theorem weightsAll_mem {H : Type} {P : Program} {e : TypeId} : ∀ {l : List (DataW H)} {d : DataW H}, d ∈ l → ∀ n ∈ d.weights P e, n ∈ DataW.weightsAll P e l
  | a :: l, d, hd, n, hn => by
    unfold DataW.weightsAll
    rcases List.mem_cons.1 hd with rfl | hd
    · exact List.mem_append_left _ hn
    · exact List.mem_append_right _ (weightsAll_mem hd n hn)
theorem rdw_slice {α : Type} {R : World → List Value → α → Prop} {k bytes : Nat} (hR : RdW P e R) (hk : P.cellsOf e = k) (h0 : 0 < k) (ht : P.underlying t = some (.slice e)) (hb : P.bytesOf e = bytes) : RdW P t (fun w cs (l : List α) => ∃ v, cs = [v] ∧ Sl w k R v l ∧ l.length * bytes ≤ 140737488351232) := by
  intro H enc w base spare held fuel cs x h hW
  rcases Deep.open_slice ht h with ⟨rfl, _⟩ | ⟨a, len, cap, m, n, D, Pl, rfl, _, hl, hm, hmm, rfl, hx⟩
  · exact ⟨[], _, rfl, Sl.nil, by simp⟩
  · have hlm : len ≤ m := by rw [hmm]; split <;> omega
    rw [hk] at hx
    unfold WOk at hW
    simp only [DataW.weights, ht] at hW
    have hbd := hW _ (List.mem_cons_self ..)
    have hel : ∀ i, i < len → WOk P e (D i) := fun i hi n hn => hW n (List.mem_cons_of_mem _ (List.mem_append_left _ (weightsAll_mem (List.mem_map.2 ⟨i, List.mem_range.2 hi, rfl⟩) n hn)))
    obtain ⟨l, hll, hp⟩ := list_of (p := fun i x => ∃ cs, w.cells? base (a.add (i * k)) k = some cs ∧ R w cs x) len (fun i hi => by
      obtain ⟨cs, h1, h2⟩ := hx i (by omega)
      obtain ⟨y, hy⟩ := hR H enc w base spare held n cs _ h2 (hel i hi)
      exact ⟨y, cs, h1, hy⟩)
    refine ⟨l, _, rfl, ⟨some a, cap, by rw [hll], by omega, by simp only [maxLen] at hm; omega, fun i hi => ?_⟩, ?_⟩
    · obtain ⟨cs, h1, h2⟩ := hp i hi
      obtain ⟨cs0, h01, _⟩ := hp 0 (by omega)
      obtain ⟨_, hl0, hc0⟩ := World.cells?_some h01
      have ha := addr_of ((hc0 0 h0).trans (List.getElem?_eq_getElem (by omega)))
      obtain ⟨_, hlc, hc⟩ := World.cells?_some h1
      obtain ⟨b, o, s⟩ := a
      have hs : s = none := by
        have : (0 : Nat) * k = 0 := Nat.zero_mul k
        simp only [this, Addr.add, if_true] at ha
        simpa using ha
      subst hs
      refine ⟨b, o, cs, rfl, hlc, fun j v hv => ?_, h2⟩
      have hj : j < k := by have := (List.getElem?_eq_some_iff.1 hv).1; omega
      have := (hc j hj).trans hv
      rwa [addr_add, addr_add] at this
    · rw [hll, ← hb]
      refine Nat.le_trans ?_ hbd
      exact Nat.mul_le_mul_right _ (by simp)
theorem rdw_fields {H : Type} {enc : TypeId × Value → H} {w : World} {base : Nat} {spare : Nat → Bool} {held : Bool} {fuel : Nat} {cs : List Value} {x : DataW H × List MemPlace} {fs : Array Field} (ht : P.underlying t = some (.struct fs)) (h : DataW.trod enc P w base spare held fuel t cs = some x) (hW : WOk P t x.1) :
    cs.length = P.cellsOf t ∧ ∃ n, ∀ (i : Nat) (f : Field), fs[i]? = some f → ∃ y, DataW.trod enc P w base spare held n f.type ((cs.drop f.offset).take (P.cellsOf f.type)) = some y ∧ WOk P f.type y.1 := by
  obtain ⟨xs, n, _, rfl, hl, hxs, hf⟩ := DataW.trod_struct ht h
  refine ⟨hl, n, fun i f hi => ?_⟩
  have h1 := (Array.getElem?_eq_some_iff.1 hi).1
  have hix : i < xs.length := by omega
  refine ⟨xs[i], (hf i f hi).trans (List.getElem?_eq_getElem hix), fun m hm => hW m ?_⟩
  simp only [DataW.weights, ht]
  exact DataW.weights_mem_each (j := i) (t := f.type) (d := xs[i].1) (by simp [hi]) (by simp [hix]) m hm
end
end Bx
/- part RdF -/
namespace Go.Proofs.YtghgnofilbnbaaaGreat
open Go Bx
section
variable {H : Type} {enc : TypeId × Value → H} {w : World} {base : Nat} {spare : Nat → Bool} {held : Bool} {fuel : Nat} {cs : List Value} {x : DataW H × List MemPlace}
theorem rdF26 (h : DataW.trod enc Tryz.prog w base spare held fuel 26 cs = some x) (hW : WOk Tryz.prog 26 x.1) : ∃ n c0 c1 c2, cs = [c0, c1, c2] ∧ (∃ y, DataW.trod enc Tryz.prog w base spare held n 22 [c0] = some y ∧ WOk Tryz.prog 22 y.1) ∧ (∃ y, DataW.trod enc Tryz.prog w base spare held n 23 [c1] = some y ∧ WOk Tryz.prog 23 y.1) ∧ (∃ y, DataW.trod enc Tryz.prog w base spare held n 24 [c2] = some y ∧ WOk Tryz.prog 24 y.1) := by
  have z22 : Tryz.prog.cellsOf 22 = 1 := by kernel_rfl
  have z23 : Tryz.prog.cellsOf 23 = 1 := by kernel_rfl
  have z24 : Tryz.prog.cellsOf 24 = 1 := by kernel_rfl
  obtain ⟨hl, n, hf⟩ := rdw_fields Tryz.underlying26 h hW
  have hz : Tryz.prog.cellsOf 26 = 3 := by kernel_rfl
  rw [hz] at hl
  obtain ⟨c0, c1, c2, rfl⟩ := three_of hl
  have f0 : ∃ y, DataW.trod enc Tryz.prog w base spare held n 22 ((List.drop 0 [c0, c1, c2]).take (Tryz.prog.cellsOf 22)) = some y ∧ WOk Tryz.prog 22 y.1 := hf 0 _ rfl
  rw [z22] at f0
  have f1 : ∃ y, DataW.trod enc Tryz.prog w base spare held n 23 ((List.drop 1 [c0, c1, c2]).take (Tryz.prog.cellsOf 23)) = some y ∧ WOk Tryz.prog 23 y.1 := hf 1 _ rfl
  rw [z23] at f1
  have f2 : ∃ y, DataW.trod enc Tryz.prog w base spare held n 24 ((List.drop 2 [c0, c1, c2]).take (Tryz.prog.cellsOf 24)) = some y ∧ WOk Tryz.prog 24 y.1 := hf 2 _ rfl
  rw [z24] at f2
  exact ⟨n, c0, c1, c2, rfl, f0, f1, f2⟩
theorem rdF45 (h : DataW.trod enc Tryz.prog w base spare held fuel 45 cs = some x) (hW : WOk Tryz.prog 45 x.1) : ∃ n c0 c1, cs = [c0, c1] ∧ (∃ y, DataW.trod enc Tryz.prog w base spare held n 9 [c0] = some y ∧ WOk Tryz.prog 9 y.1) ∧ (∃ y, DataW.trod enc Tryz.prog w base spare held n 43 [c1] = some y ∧ WOk Tryz.prog 43 y.1) := by
  have z9 : Tryz.prog.cellsOf 9 = 1 := by kernel_rfl
  have z43 : Tryz.prog.cellsOf 43 = 1 := by kernel_rfl
  obtain ⟨hl, n, hf⟩ := rdw_fields Tryz.underlying45 h hW
  have hz : Tryz.prog.cellsOf 45 = 2 := by kernel_rfl
  rw [hz] at hl
  obtain ⟨c0, c1, rfl⟩ := two_of hl
  have f0 : ∃ y, DataW.trod enc Tryz.prog w base spare held n 9 ((List.drop 0 [c0, c1]).take (Tryz.prog.cellsOf 9)) = some y ∧ WOk Tryz.prog 9 y.1 := hf 0 _ rfl
  rw [z9] at f0
  have f1 : ∃ y, DataW.trod enc Tryz.prog w base spare held n 43 ((List.drop 1 [c0, c1]).take (Tryz.prog.cellsOf 43)) = some y ∧ WOk Tryz.prog 43 y.1 := hf 1 _ rfl
  rw [z43] at f1
  exact ⟨n, c0, c1, rfl, f0, f1⟩
theorem rdF47 (h : DataW.trod enc Tryz.prog w base spare held fuel 47 cs = some x) (hW : WOk Tryz.prog 47 x.1) : ∃ n c0 c1 c2 c3, cs = [c0, c1, c2, c3] ∧ (∃ y, DataW.trod enc Tryz.prog w base spare held n 45 [c0, c1] = some y ∧ WOk Tryz.prog 45 y.1) ∧ (∃ y, DataW.trod enc Tryz.prog w base spare held n 3 [c2] = some y ∧ WOk Tryz.prog 3 y.1) ∧ (∃ y, DataW.trod enc Tryz.prog w base spare held n 27 [c3] = some y ∧ WOk Tryz.prog 27 y.1) := by
  have z3 : Tryz.prog.cellsOf 3 = 1 := by kernel_rfl
  have z27 : Tryz.prog.cellsOf 27 = 1 := by kernel_rfl
  have z45 : Tryz.prog.cellsOf 45 = 2 := by kernel_rfl
  obtain ⟨hl, n, hf⟩ := rdw_fields Tryz.underlying47 h hW
  have hz : Tryz.prog.cellsOf 47 = 4 := by kernel_rfl
  rw [hz] at hl
  obtain ⟨c0, c1, c2, c3, rfl⟩ := four_of hl
  have f0 : ∃ y, DataW.trod enc Tryz.prog w base spare held n 45 ((List.drop 0 [c0, c1, c2, c3]).take (Tryz.prog.cellsOf 45)) = some y ∧ WOk Tryz.prog 45 y.1 := hf 0 _ rfl
  rw [z45] at f0
  have f1 : ∃ y, DataW.trod enc Tryz.prog w base spare held n 3 ((List.drop 2 [c0, c1, c2, c3]).take (Tryz.prog.cellsOf 3)) = some y ∧ WOk Tryz.prog 3 y.1 := hf 1 _ rfl
  rw [z3] at f1
  have f2 : ∃ y, DataW.trod enc Tryz.prog w base spare held n 27 ((List.drop 3 [c0, c1, c2, c3]).take (Tryz.prog.cellsOf 27)) = some y ∧ WOk Tryz.prog 27 y.1 := hf 2 _ rfl
  rw [z27] at f2
  exact ⟨n, c0, c1, c2, c3, rfl, f0, f1, f2⟩
theorem rdF78 (h : DataW.trod enc Tryz.prog w base spare held fuel 78 cs = some x) (hW : WOk Tryz.prog 78 x.1) : ∃ n c0 c1 c2 c3 c4, cs = [c0, c1, c2, c3, c4] ∧ (∃ y, DataW.trod enc Tryz.prog w base spare held n 3 [c0] = some y ∧ WOk Tryz.prog 3 y.1) ∧ (∃ y, DataW.trod enc Tryz.prog w base spare held n 3 [c1] = some y ∧ WOk Tryz.prog 3 y.1) ∧ (∃ y, DataW.trod enc Tryz.prog w base spare held n 3 [c2] = some y ∧ WOk Tryz.prog 3 y.1) ∧ (∃ y, DataW.trod enc Tryz.prog w base spare held n 3 [c3] = some y ∧ WOk Tryz.prog 3 y.1) ∧ (∃ y, DataW.trod enc Tryz.prog w base spare held n 3 [c4] = some y ∧ WOk Tryz.prog 3 y.1) := by
  have z3 : Tryz.prog.cellsOf 3 = 1 := by kernel_rfl
  obtain ⟨hl, n, hf⟩ := rdw_fields Tryz.underlying78 h hW
  have hz : Tryz.prog.cellsOf 78 = 5 := by kernel_rfl
  rw [hz] at hl
  obtain ⟨c0, c1, c2, c3, c4, rfl⟩ := five_of hl
  have f0 : ∃ y, DataW.trod enc Tryz.prog w base spare held n 3 ((List.drop 0 [c0, c1, c2, c3, c4]).take (Tryz.prog.cellsOf 3)) = some y ∧ WOk Tryz.prog 3 y.1 := hf 0 _ rfl
  rw [z3] at f0
  have f1 : ∃ y, DataW.trod enc Tryz.prog w base spare held n 3 ((List.drop 1 [c0, c1, c2, c3, c4]).take (Tryz.prog.cellsOf 3)) = some y ∧ WOk Tryz.prog 3 y.1 := hf 1 _ rfl
  rw [z3] at f1
  have f2 : ∃ y, DataW.trod enc Tryz.prog w base spare held n 3 ((List.drop 2 [c0, c1, c2, c3, c4]).take (Tryz.prog.cellsOf 3)) = some y ∧ WOk Tryz.prog 3 y.1 := hf 2 _ rfl
  rw [z3] at f2
  have f3 : ∃ y, DataW.trod enc Tryz.prog w base spare held n 3 ((List.drop 3 [c0, c1, c2, c3, c4]).take (Tryz.prog.cellsOf 3)) = some y ∧ WOk Tryz.prog 3 y.1 := hf 3 _ rfl
  rw [z3] at f3
  have f4 : ∃ y, DataW.trod enc Tryz.prog w base spare held n 3 ((List.drop 4 [c0, c1, c2, c3, c4]).take (Tryz.prog.cellsOf 3)) = some y ∧ WOk Tryz.prog 3 y.1 := hf 4 _ rfl
  rw [z3] at f4
  exact ⟨n, c0, c1, c2, c3, c4, rfl, f0, f1, f2, f3, f4⟩
theorem rdF86 (h : DataW.trod enc Tryz.prog w base spare held fuel 86 cs = some x) (hW : WOk Tryz.prog 86 x.1) : ∃ n c0 c1 c2 c3 c4 c5, cs = [c0, c1, c2, c3, c4, c5] ∧ (∃ y, DataW.trod enc Tryz.prog w base spare held n 3 [c0] = some y ∧ WOk Tryz.prog 3 y.1) ∧ (∃ y, DataW.trod enc Tryz.prog w base spare held n 3 [c1] = some y ∧ WOk Tryz.prog 3 y.1) ∧ (∃ y, DataW.trod enc Tryz.prog w base spare held n 3 [c2] = some y ∧ WOk Tryz.prog 3 y.1) ∧ (∃ y, DataW.trod enc Tryz.prog w base spare held n 3 [c3] = some y ∧ WOk Tryz.prog 3 y.1) ∧ (∃ y, DataW.trod enc Tryz.prog w base spare held n 3 [c4] = some y ∧ WOk Tryz.prog 3 y.1) ∧ (∃ y, DataW.trod enc Tryz.prog w base spare held n 3 [c5] = some y ∧ WOk Tryz.prog 3 y.1) := by
  have z3 : Tryz.prog.cellsOf 3 = 1 := by kernel_rfl
  obtain ⟨hl, n, hf⟩ := rdw_fields Tryz.underlying86 h hW
  have hz : Tryz.prog.cellsOf 86 = 6 := by kernel_rfl
  rw [hz] at hl
  obtain ⟨c0, c1, c2, c3, c4, c5, rfl⟩ := six_of hl
  have f0 : ∃ y, DataW.trod enc Tryz.prog w base spare held n 3 ((List.drop 0 [c0, c1, c2, c3, c4, c5]).take (Tryz.prog.cellsOf 3)) = some y ∧ WOk Tryz.prog 3 y.1 := hf 0 _ rfl
  rw [z3] at f0
  have f1 : ∃ y, DataW.trod enc Tryz.prog w base spare held n 3 ((List.drop 1 [c0, c1, c2, c3, c4, c5]).take (Tryz.prog.cellsOf 3)) = some y ∧ WOk Tryz.prog 3 y.1 := hf 1 _ rfl
  rw [z3] at f1
  have f2 : ∃ y, DataW.trod enc Tryz.prog w base spare held n 3 ((List.drop 2 [c0, c1, c2, c3, c4, c5]).take (Tryz.prog.cellsOf 3)) = some y ∧ WOk Tryz.prog 3 y.1 := hf 2 _ rfl
  rw [z3] at f2
  have f3 : ∃ y, DataW.trod enc Tryz.prog w base spare held n 3 ((List.drop 3 [c0, c1, c2, c3, c4, c5]).take (Tryz.prog.cellsOf 3)) = some y ∧ WOk Tryz.prog 3 y.1 := hf 3 _ rfl
  rw [z3] at f3
  have f4 : ∃ y, DataW.trod enc Tryz.prog w base spare held n 3 ((List.drop 4 [c0, c1, c2, c3, c4, c5]).take (Tryz.prog.cellsOf 3)) = some y ∧ WOk Tryz.prog 3 y.1 := hf 4 _ rfl
  rw [z3] at f4
  have f5 : ∃ y, DataW.trod enc Tryz.prog w base spare held n 3 ((List.drop 5 [c0, c1, c2, c3, c4, c5]).take (Tryz.prog.cellsOf 3)) = some y ∧ WOk Tryz.prog 3 y.1 := hf 5 _ rfl
  rw [z3] at f5
  exact ⟨n, c0, c1, c2, c3, c4, c5, rfl, f0, f1, f2, f3, f4, f5⟩
theorem rdF92 (h : DataW.trod enc Tryz.prog w base spare held fuel 92 cs = some x) (hW : WOk Tryz.prog 92 x.1) : ∃ n c0 c1 c2 c3 c4 c5, cs = [c0, c1, c2, c3, c4, c5] ∧ (∃ y, DataW.trod enc Tryz.prog w base spare held n 9 [c0] = some y ∧ WOk Tryz.prog 9 y.1) ∧ (∃ y, DataW.trod enc Tryz.prog w base spare held n 3 [c1] = some y ∧ WOk Tryz.prog 3 y.1) ∧ (∃ y, DataW.trod enc Tryz.prog w base spare held n 3 [c2] = some y ∧ WOk Tryz.prog 3 y.1) ∧ (∃ y, DataW.trod enc Tryz.prog w base spare held n 3 [c3] = some y ∧ WOk Tryz.prog 3 y.1) ∧ (∃ y, DataW.trod enc Tryz.prog w base spare held n 37 [c4] = some y ∧ WOk Tryz.prog 37 y.1) ∧ (∃ y, DataW.trod enc Tryz.prog w base spare held n 4 [c5] = some y ∧ WOk Tryz.prog 4 y.1) := by
  have z3 : Tryz.prog.cellsOf 3 = 1 := by kernel_rfl
  have z4 : Tryz.prog.cellsOf 4 = 1 := by kernel_rfl
  have z9 : Tryz.prog.cellsOf 9 = 1 := by kernel_rfl
  have z37 : Tryz.prog.cellsOf 37 = 1 := by kernel_rfl
  obtain ⟨hl, n, hf⟩ := rdw_fields Tryz.underlying92 h hW
  have hz : Tryz.prog.cellsOf 92 = 6 := by kernel_rfl
  rw [hz] at hl
  obtain ⟨c0, c1, c2, c3, c4, c5, rfl⟩ := six_of hl
  have f0 : ∃ y, DataW.trod enc Tryz.prog w base spare held n 9 ((List.drop 0 [c0, c1, c2, c3, c4, c5]).take (Tryz.prog.cellsOf 9)) = some y ∧ WOk Tryz.prog 9 y.1 := hf 0 _ rfl
  rw [z9] at f0
  have f1 : ∃ y, DataW.trod enc Tryz.prog w base spare held n 3 ((List.drop 1 [c0, c1, c2, c3, c4, c5]).take (Tryz.prog.cellsOf 3)) = some y ∧ WOk Tryz.prog 3 y.1 := hf 1 _ rfl
  rw [z3] at f1
  have f2 : ∃ y, DataW.trod enc Tryz.prog w base spare held n 3 ((List.drop 2 [c0, c1, c2, c3, c4, c5]).take (Tryz.prog.cellsOf 3)) = some y ∧ WOk Tryz.prog 3 y.1 := hf 2 _ rfl
  rw [z3] at f2
  have f3 : ∃ y, DataW.trod enc Tryz.prog w base spare held n 3 ((List.drop 3 [c0, c1, c2, c3, c4, c5]).take (Tryz.prog.cellsOf 3)) = some y ∧ WOk Tryz.prog 3 y.1 := hf 3 _ rfl
  rw [z3] at f3
  have f4 : ∃ y, DataW.trod enc Tryz.prog w base spare held n 37 ((List.drop 4 [c0, c1, c2, c3, c4, c5]).take (Tryz.prog.cellsOf 37)) = some y ∧ WOk Tryz.prog 37 y.1 := hf 4 _ rfl
  rw [z37] at f4
  have f5 : ∃ y, DataW.trod enc Tryz.prog w base spare held n 4 ((List.drop 5 [c0, c1, c2, c3, c4, c5]).take (Tryz.prog.cellsOf 4)) = some y ∧ WOk Tryz.prog 4 y.1 := hf 5 _ rfl
  rw [z4] at f5
  exact ⟨n, c0, c1, c2, c3, c4, c5, rfl, f0, f1, f2, f3, f4, f5⟩
theorem rdF94 (h : DataW.trod enc Tryz.prog w base spare held fuel 94 cs = some x) (hW : WOk Tryz.prog 94 x.1) : ∃ n c0 c1, cs = [c0, c1] ∧ (∃ y, DataW.trod enc Tryz.prog w base spare held n 3 [c0] = some y ∧ WOk Tryz.prog 3 y.1) ∧ (∃ y, DataW.trod enc Tryz.prog w base spare held n 3 [c1] = some y ∧ WOk Tryz.prog 3 y.1) := by
  have z3 : Tryz.prog.cellsOf 3 = 1 := by kernel_rfl
  obtain ⟨hl, n, hf⟩ := rdw_fields Tryz.underlying94 h hW
  have hz : Tryz.prog.cellsOf 94 = 2 := by kernel_rfl
  rw [hz] at hl
  obtain ⟨c0, c1, rfl⟩ := two_of hl
  have f0 : ∃ y, DataW.trod enc Tryz.prog w base spare held n 3 ((List.drop 0 [c0, c1]).take (Tryz.prog.cellsOf 3)) = some y ∧ WOk Tryz.prog 3 y.1 := hf 0 _ rfl
  rw [z3] at f0
  have f1 : ∃ y, DataW.trod enc Tryz.prog w base spare held n 3 ((List.drop 1 [c0, c1]).take (Tryz.prog.cellsOf 3)) = some y ∧ WOk Tryz.prog 3 y.1 := hf 1 _ rfl
  rw [z3] at f1
  exact ⟨n, c0, c1, rfl, f0, f1⟩
theorem rdF97 (h : DataW.trod enc Tryz.prog w base spare held fuel 97 cs = some x) (hW : WOk Tryz.prog 97 x.1) : ∃ n c0 c1 c2, cs = [c0, c1, c2] ∧ (∃ y, DataW.trod enc Tryz.prog w base spare held n 9 [c0] = some y ∧ WOk Tryz.prog 9 y.1) ∧ (∃ y, DataW.trod enc Tryz.prog w base spare held n 3 [c1] = some y ∧ WOk Tryz.prog 3 y.1) ∧ (∃ y, DataW.trod enc Tryz.prog w base spare held n 95 [c2] = some y ∧ WOk Tryz.prog 95 y.1) := by
  have z3 : Tryz.prog.cellsOf 3 = 1 := by kernel_rfl
  have z9 : Tryz.prog.cellsOf 9 = 1 := by kernel_rfl
  have z95 : Tryz.prog.cellsOf 95 = 1 := by kernel_rfl
  obtain ⟨hl, n, hf⟩ := rdw_fields Tryz.underlying97 h hW
  have hz : Tryz.prog.cellsOf 97 = 3 := by kernel_rfl
  rw [hz] at hl
  obtain ⟨c0, c1, c2, rfl⟩ := three_of hl
  have f0 : ∃ y, DataW.trod enc Tryz.prog w base spare held n 9 ((List.drop 0 [c0, c1, c2]).take (Tryz.prog.cellsOf 9)) = some y ∧ WOk Tryz.prog 9 y.1 := hf 0 _ rfl
  rw [z9] at f0
  have f1 : ∃ y, DataW.trod enc Tryz.prog w base spare held n 3 ((List.drop 1 [c0, c1, c2]).take (Tryz.prog.cellsOf 3)) = some y ∧ WOk Tryz.prog 3 y.1 := hf 1 _ rfl
  rw [z3] at f1
  have f2 : ∃ y, DataW.trod enc Tryz.prog w base spare held n 95 ((List.drop 2 [c0, c1, c2]).take (Tryz.prog.cellsOf 95)) = some y ∧ WOk Tryz.prog 95 y.1 := hf 2 _ rfl
  rw [z95] at f2
  exact ⟨n, c0, c1, c2, rfl, f0, f1, f2⟩
end
end Go.Proofs.YtghgnofilbnbaaaGreat
/- part Rd1 -/
namespace Go.Proofs.YtghgnofilbnbaaaGreat
open Go Bx
theorem rd_Spn : RdW Tryz.prog 94 RSpn := by
  intro H enc w base spare held fuel cs x h hW
  obtain ⟨n, c0, c1, rfl, ⟨y0, f0, k0⟩, ⟨y1, f1, k1⟩⟩ := rdF94 h hW
  obtain ⟨a0, g0⟩ := (Rd.w (rd_int Tryz.underlying3)) _ _ _ _ _ _ _ _ _ f0 k0
  obtain ⟨a1, g1⟩ := (Rd.w (rd_int Tryz.underlying3)) _ _ _ _ _ _ _ _ _ f1 k1
  obtain ⟨e0, i0⟩ := g0; obtain ⟨e1, i1⟩ := g1; cases e0; cases e1; exact ⟨⟨a0, a1⟩, rfl, i0, i1⟩
theorem rd_Spns : RdW Tryz.prog 95 (fun w cs (l : List Spn) => ∃ v, cs = [v] ∧ Sl w 2 RSpn v l ∧ l.length * 16 ≤ 140737488351232) := rdw_slice rd_Spn (by kernel_rfl) (by decide) Tryz.underlying95 (by kernel_rfl)
theorem rd_Ints : RdW Tryz.prog 37 (fun w cs (l : List Int) => ∃ v, cs = [v] ∧ Sl w 1 RInt v l ∧ l.length * 8 ≤ 140737488351232) := rdw_slice (Rd.w (rd_int Tryz.underlying3)) (by kernel_rfl) (by decide) Tryz.underlying37 (by kernel_rfl)
theorem rd_Nams : RdW Tryz.prog 23 (fun w cs (l : List ByteArray) => ∃ v, cs = [v] ∧ Sl w 1 RNam v l ∧ l.length * 16 ≤ 140737488351232) := rdw_slice (Rd.w (rd_str Tryz.underlying9)) (by kernel_rfl) (by decide) Tryz.underlying23 (by kernel_rfl)
theorem rd_Opr : RdW Tryz.prog 97 ROprS := by
  intro H enc w base spare held fuel cs x h hW
  obtain ⟨n, c0, c1, c2, rfl, ⟨y0, f0, k0⟩, ⟨y1, f1, k1⟩, ⟨y2, f2, k2⟩⟩ := rdF97 h hW
  obtain ⟨a0, g0⟩ := (Rd.w (rd_str Tryz.underlying9)) _ _ _ _ _ _ _ _ _ f0 k0
  obtain ⟨a1, g1⟩ := (Rd.w (rd_int Tryz.underlying3)) _ _ _ _ _ _ _ _ _ f1 k1
  obtain ⟨a2, g2⟩ := rd_Spns _ _ _ _ _ _ _ _ _ f2 k2
  obtain ⟨e0, i0⟩ := g0; obtain ⟨e1, i1⟩ := g1; obtain ⟨v2, e2, i2, r2⟩ := g2; cases e0; cases e1; cases e2; exact ⟨⟨a0, a1, a2⟩, ⟨_, rfl, i0, i1, i2, Nat.le_trans r2 (by decide)⟩, r2⟩
theorem rd_Oprs : RdW Tryz.prog 22 (fun w cs (l : List Opr) => ∃ v, cs = [v] ∧ Sl w 3 ROprS v l ∧ l.length * 48 ≤ 140737488351232) := rdw_slice rd_Opr (by kernel_rfl) (by decide) Tryz.underlying22 (by kernel_rfl)
theorem rd_Knd : RdW Tryz.prog 92 RKnd := by
  intro H enc w base spare held fuel cs x h hW
  obtain ⟨n, c0, c1, c2, c3, c4, c5, rfl, ⟨y0, f0, k0⟩, ⟨y1, f1, k1⟩, ⟨y2, f2, k2⟩, ⟨y3, f3, k3⟩, ⟨y4, f4, k4⟩, ⟨y5, f5, k5⟩⟩ := rdF92 h hW
  obtain ⟨a0, g0⟩ := (Rd.w (rd_str Tryz.underlying9)) _ _ _ _ _ _ _ _ _ f0 k0
  obtain ⟨a1, g1⟩ := (Rd.w (rd_int Tryz.underlying3)) _ _ _ _ _ _ _ _ _ f1 k1
  obtain ⟨a2, g2⟩ := (Rd.w (rd_int Tryz.underlying3)) _ _ _ _ _ _ _ _ _ f2 k2
  obtain ⟨a3, g3⟩ := (Rd.w (rd_int Tryz.underlying3)) _ _ _ _ _ _ _ _ _ f3 k3
  obtain ⟨a4, g4⟩ := rd_Ints _ _ _ _ _ _ _ _ _ f4 k4
  obtain ⟨a5, g5⟩ := (Rd.w (rd_bool Tryz.underlying4)) _ _ _ _ _ _ _ _ _ f5 k5
  obtain ⟨e0, i0⟩ := g0; obtain ⟨e1, i1⟩ := g1; obtain ⟨e2, i2⟩ := g2; obtain ⟨e3, i3⟩ := g3; obtain ⟨v4, e4, i4, r4⟩ := g4; have e5 : [c5] = [Value.bool a5] := g5; cases e0; cases e1; cases e2; cases e3; cases e4; cases e5; exact ⟨⟨a0, a1, a2, a3, a4, a5⟩, _, rfl, i0, i1, i2, i3, i4, r4⟩
theorem rd_Knds : RdW Tryz.prog 24 (fun w cs (l : List Knd) => ∃ v, cs = [v] ∧ Sl w 6 RKnd v l ∧ l.length * 72 ≤ 140737488351232) := rdw_slice rd_Knd (by kernel_rfl) (by decide) Tryz.underlying24 (by kernel_rfl)
theorem rd_CrewS : RdW Tryz.prog 26 RCrewS := by
  intro H enc w base spare held fuel cs x h hW
  obtain ⟨n, c0, c1, c2, rfl, ⟨y0, f0, k0⟩, ⟨y1, f1, k1⟩, ⟨y2, f2, k2⟩⟩ := rdF26 h hW
  obtain ⟨a0, g0⟩ := rd_Oprs _ _ _ _ _ _ _ _ _ f0 k0
  obtain ⟨a1, g1⟩ := rd_Nams _ _ _ _ _ _ _ _ _ f1 k1
  obtain ⟨a2, g2⟩ := rd_Knds _ _ _ _ _ _ _ _ _ f2 k2
  obtain ⟨v0, e0, i0, r0⟩ := g0; obtain ⟨v1, e1, i1, r1⟩ := g1; obtain ⟨v2, e2, i2, r2⟩ := g2; cases e0; cases e1; cases e2; exact ⟨⟨a0, a1, a2⟩, ⟨_, _, _, rfl, i0.mono (fun _ _ h => h.1), i1, i2, r0⟩, sl_all i0 (fun _ _ h => h.2)⟩
theorem rd_Crew : RdW Tryz.prog 26 RCrew := fun H enc w base spare held fuel cs x h hW => by obtain ⟨a, h⟩ := rd_CrewS H enc w base spare held fuel cs x h hW; exact ⟨a, h.1⟩
theorem rd_Act : RdW Tryz.prog 86 RAct := by
  intro H enc w base spare held fuel cs x h hW
  obtain ⟨n, c0, c1, c2, c3, c4, c5, rfl, ⟨y0, f0, k0⟩, ⟨y1, f1, k1⟩, ⟨y2, f2, k2⟩, ⟨y3, f3, k3⟩, ⟨y4, f4, k4⟩, ⟨y5, f5, k5⟩⟩ := rdF86 h hW
  obtain ⟨a0, g0⟩ := (Rd.w (rd_int Tryz.underlying3)) _ _ _ _ _ _ _ _ _ f0 k0
  obtain ⟨a1, g1⟩ := (Rd.w (rd_int Tryz.underlying3)) _ _ _ _ _ _ _ _ _ f1 k1
  obtain ⟨a2, g2⟩ := (Rd.w (rd_int Tryz.underlying3)) _ _ _ _ _ _ _ _ _ f2 k2
  obtain ⟨a3, g3⟩ := (Rd.w (rd_int Tryz.underlying3)) _ _ _ _ _ _ _ _ _ f3 k3
  obtain ⟨a4, g4⟩ := (Rd.w (rd_int Tryz.underlying3)) _ _ _ _ _ _ _ _ _ f4 k4
  obtain ⟨a5, g5⟩ := (Rd.w (rd_int Tryz.underlying3)) _ _ _ _ _ _ _ _ _ f5 k5
  obtain ⟨e0, i0⟩ := g0; obtain ⟨e1, i1⟩ := g1; obtain ⟨e2, i2⟩ := g2; obtain ⟨e3, i3⟩ := g3; obtain ⟨e4, i4⟩ := g4; obtain ⟨e5, i5⟩ := g5; cases e0; cases e1; cases e2; cases e3; cases e4; cases e5; exact ⟨⟨a0, a1, a2, a3, a4, a5⟩, rfl, i0, i1, i2, i3, i4, i5⟩
theorem rd_Acts : RdW Tryz.prog 27 (fun w cs (l : List Acn) => ∃ v, cs = [v] ∧ Sl w 6 RAct v l ∧ l.length * 48 ≤ 140737488351232) := rdw_slice rd_Act (by kernel_rfl) (by decide) Tryz.underlying27 (by kernel_rfl)
theorem rd_Stp : RdW Tryz.prog 78 RStp := by
  intro H enc w base spare held fuel cs x h hW
  obtain ⟨n, c0, c1, c2, c3, c4, rfl, ⟨y0, f0, k0⟩, ⟨y1, f1, k1⟩, ⟨y2, f2, k2⟩, ⟨y3, f3, k3⟩, ⟨y4, f4, k4⟩⟩ := rdF78 h hW
  obtain ⟨a0, g0⟩ := (Rd.w (rd_int Tryz.underlying3)) _ _ _ _ _ _ _ _ _ f0 k0
  obtain ⟨a1, g1⟩ := (Rd.w (rd_int Tryz.underlying3)) _ _ _ _ _ _ _ _ _ f1 k1
  obtain ⟨a2, g2⟩ := (Rd.w (rd_int Tryz.underlying3)) _ _ _ _ _ _ _ _ _ f2 k2
  obtain ⟨a3, g3⟩ := (Rd.w (rd_int Tryz.underlying3)) _ _ _ _ _ _ _ _ _ f3 k3
  obtain ⟨a4, g4⟩ := (Rd.w (rd_int Tryz.underlying3)) _ _ _ _ _ _ _ _ _ f4 k4
  obtain ⟨e0, i0⟩ := g0; obtain ⟨e1, i1⟩ := g1; obtain ⟨e2, i2⟩ := g2; obtain ⟨e3, i3⟩ := g3; obtain ⟨e4, i4⟩ := g4; cases e0; cases e1; cases e2; cases e3; cases e4; exact ⟨⟨a0, a1, a2, a3, a4⟩, rfl, i0, i1, i2, i3, i4⟩
theorem rd_Stps : RdW Tryz.prog 43 (fun w cs (l : List Stp) => ∃ v, cs = [v] ∧ Sl w 5 RStp v l ∧ l.length * 40 ≤ 140737488351232) := rdw_slice rd_Stp (by kernel_rfl) (by decide) Tryz.underlying43 (by kernel_rfl)
theorem rd_Scr : RdW Tryz.prog 45 RScr := by
  intro H enc w base spare held fuel cs x h hW
  obtain ⟨n, c0, c1, rfl, ⟨y0, f0, k0⟩, ⟨y1, f1, k1⟩⟩ := rdF45 h hW
  obtain ⟨a0, g0⟩ := (Rd.w (rd_str Tryz.underlying9)) _ _ _ _ _ _ _ _ _ f0 k0
  obtain ⟨a1, g1⟩ := rd_Stps _ _ _ _ _ _ _ _ _ f1 k1
  obtain ⟨e0, i0⟩ := g0; obtain ⟨v1, e1, i1, r1⟩ := g1; cases e0; cases e1; exact ⟨⟨a0, a1⟩, _, rfl, i0, i1⟩
theorem rd_Drl : RdW Tryz.prog 47 RDrl := by
  intro H enc w base spare held fuel cs x h hW
  obtain ⟨n, c0, c1, c2, c3, rfl, ⟨y0, f0, k0⟩, ⟨y1, f1, k1⟩, ⟨y2, f2, k2⟩⟩ := rdF47 h hW
  obtain ⟨a0, g0⟩ := rd_Scr _ _ _ _ _ _ _ _ _ f0 k0
  obtain ⟨a1, g1⟩ := (Rd.w (rd_int Tryz.underlying3)) _ _ _ _ _ _ _ _ _ f1 k1
  obtain ⟨a2, g2⟩ := rd_Acts _ _ _ _ _ _ _ _ _ f2 k2
  obtain ⟨v0, e0, i0, j0⟩ := g0; obtain ⟨e1, i1⟩ := g1; obtain ⟨v2, e2, i2, r2⟩ := g2; cases e0; cases e1; cases e2; exact ⟨⟨a0, a1, a2⟩, _, _, rfl, i0, j0, i1, i2⟩
end Go.Proofs.YtghgnofilbnbaaaGreat
