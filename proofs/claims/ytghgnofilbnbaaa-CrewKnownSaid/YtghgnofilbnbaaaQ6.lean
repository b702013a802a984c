/- Merged texts, part 6. -/
import Derived.Test.YtghgnofilbnbaaaQ5
import Derived.Laws.CopyRow
import Derived.Laws.OwnMore
import Derived.SizedLaws
import Derived.Test.YtghgnofilbnbaaaProg
set_option linter.all false
/- part Ck39 -/
namespace Go.Proofs.Ytghgnofilbnbaaa
open Go Bx
set_option maxHeartbeats 4000000 in
/-- barrage/barragelaw10.CrewChecks -/
theorem w_CrewChecks {c : Crew} {cs xs : List Value} {x : Int × Int} {w0 : World} (h : RCrew w0 cs c) (hx : RTwoI w0 xs x) : CV Try.prog 11 #[.agg cs.toArray, .agg xs.toArray] w0 (.bool true) := by
  obtain ⟨ov, kv, nv, rfl, hso, hsk, hsn, hrm⟩ := id h
  obtain ⟨a, cap, rfl, hcap, hmx, hel⟩ := id hso
  obtain ⟨who, m⟩ := x
  obtain ⟨rfl, hx1, hx2⟩ := id hx
  refine enter Try.func11 rfl Try.ntmps11 rfl ?_
  have hS := St.start w0
  refine seq ?_
  refine region ?_
  refine sbox hS rfl rfl ?_; clear hS; intro b2 w hS
  refine sbox hS rfl rfl ?_; clear hS; intro b3 w hS
  refine sv (yAsg rfl) ?_
  refine nil ?_
  show Code.wp _ _ _ _ _
  refine seq ?_
  refine region ?_
  refine sv (yLdBA rfl Try.isAgg26 Try.sizeOf26 (hS.at _) rfl rfl) ?_
  refine scall Try.call28 (.cons rfl .nil) (c_CheckC (h.ext hS.ext)) ?_
  rintro _ w ⟨rfl, hE⟩; replace hS := hS.step hE; clear hE
  refine sv (yMove rfl) ?_
  refine sv (yExt rfl rfl) ?_
  refine sv (yExt rfl rfl) ?_
  refine sv (yExt rfl rfl) ?_
  refine sv (yAsg rfl) ?_
  refine sv (yAsg rfl) ?_
  refine sv (yAsg rfl) ?_
  refine nil ?_
  show Code.wp _ _ _ _ _
  refine seq ?_
  refine region ?_
  refine sv (yLdBA rfl Try.isAgg26 Try.sizeOf26 (hS.at _) rfl rfl) ?_
  refine scall Try.call32 (.cons rfl .nil) (c_rCheck (h.ext hS.ext)) ?_
  rintro _ w ⟨rfl, hE⟩; replace hS := hS.step hE; clear hE
  refine sv (yMove rfl) ?_
  refine sv (yExt rfl rfl) ?_
  refine sv (yExt rfl rfl) ?_
  refine sv (yExt rfl rfl) ?_
  refine sv (yAsg rfl) ?_
  refine sv (yAsg rfl) ?_
  refine sv (yAsg rfl) ?_
  refine nil ?_
  show Code.wp _ _ _ _ _
  refine seq ?_
  refine seq ?_
  refine region ?_
  refine sv (yMove rfl) ?_
  refine sv (yMove rfl) ?_
  refine sv (yNeq rfl rfl) ?_
  refine sv (yMove rfl) ?_
  refine sg rfl rfl rfl (fun g => (yMove rfl)) (fun v29 g29 => ?_)
  refine sg rfl rfl rfl (fun g => (yMove rfl)) (fun v30 g30 => ?_)
  refine sg rfl rfl rfl (fun g => (yNeq (g29.1 g) (g30.1 g))) (fun v31 g31 => ?_)
  refine sv (yOr rfl rfl (fun hB => (g31.1 hB))) ?_
  refine sv (yMove rfl) ?_
  refine sg rfl rfl rfl (fun g => (yMove rfl)) (fun v34 g34 => ?_)
  refine sg rfl rfl rfl (fun g => (yMove rfl)) (fun v35 g35 => ?_)
  refine sg rfl rfl rfl (fun g => (yNeq (g34.1 g) (g35.1 g))) (fun v36 g36 => ?_)
  refine sv (yOr rfl rfl (fun hB => (g36.1 hB))) ?_
  refine nil ?_
  show Code.wp _ _ _ _ _
  refine cond rfl (fun c37 => ?_) (fun c37 => ?_)
  ·
    skip
    exfalso
    simp at c37
  ·
    skip
    refine skip ?_
    show Code.wp _ _ _ _ _
    refine seq ?_
    refine region ?_
    refine sv (yLdBA rfl Try.isAgg26 Try.sizeOf26 (hS.at _) rfl rfl) ?_
    refine sv (yIxA rfl rfl Try.runUnderlying80 Try.sizeOf3 (by omega) (by omega)) ?_
    refine sv (yLdB rfl Try.isAgg3 (hS.at _) rfl) ?_
    refine sv (yIxA rfl rfl Try.runUnderlying80 Try.sizeOf3 (by omega) (by omega)) ?_
    refine sv (yLdB rfl Try.isAgg3 (hS.at _) rfl) ?_
    refine scall Try.call33 (.cons rfl (.cons rfl (.cons rfl .nil))) (c_On (h.ext hS.ext)) ?_
    rintro _ w ⟨rfl, hE⟩; replace hS := hS.step hE; clear hE
    refine sv (yMove rfl) ?_
    refine sv (yExt rfl rfl) ?_
    refine sv (yExt rfl rfl) ?_
    refine sv (yAsg rfl) ?_
    refine sv (yAsg rfl) ?_
    refine nil ?_
    show Code.wp _ _ _ _ _
    refine seq ?_
    refine region ?_
    refine sv (yLdBA rfl Try.isAgg26 Try.sizeOf26 (hS.at _) rfl rfl) ?_
    refine sv (yIxA rfl rfl Try.runUnderlying80 Try.sizeOf3 (by omega) (by omega)) ?_
    refine sv (yLdB rfl Try.isAgg3 (hS.at _) rfl) ?_
    refine sv (yIxA rfl rfl Try.runUnderlying80 Try.sizeOf3 (by omega) (by omega)) ?_
    refine sv (yLdB rfl Try.isAgg3 (hS.at _) rfl) ?_
    refine scall Try.call34 (.cons rfl (.cons rfl (.cons rfl .nil))) (c_rOn (h.ext hS.ext)) ?_
    rintro _ w ⟨rfl, hE⟩; replace hS := hS.step hE; clear hE
    refine sv (yMove rfl) ?_
    refine sv (yExt rfl rfl) ?_
    refine sv (yExt rfl rfl) ?_
    refine sv (yAsg rfl) ?_
    refine sv (yAsg rfl) ?_
    refine nil ?_
    show Code.wp _ _ _ _ _
    refine seq ?_
    refine seq ?_
    refine region ?_
    refine sv (yMove rfl) ?_
    refine sv (yMove rfl) ?_
    refine sv (yBNe rfl rfl Try.underlying4) ?_
    refine sv (yMove rfl) ?_
    refine sg rfl rfl rfl (fun g => (yMove rfl)) (fun v60 g60 => ?_)
    refine sg rfl rfl rfl (fun g => (yMove rfl)) (fun v61 g61 => ?_)
    refine sg rfl rfl rfl (fun g => (yNeq (g60.1 g) (g61.1 g))) (fun v62 g62 => ?_)
    refine sv (yOr rfl rfl (fun hB => (g62.1 hB))) ?_
    refine nil ?_
    show Code.wp _ _ _ _ _
    refine cond rfl (fun c63 => ?_) (fun c63 => ?_)
    ·
      skip
      exfalso
      simp at c63
    ·
      skip
      refine skip ?_
      show Code.wp _ _ _ _ _
      refine seq ?_
      refine region ?_
      refine sv (yLdBA rfl Try.isAgg26 Try.sizeOf26 (hS.at _) rfl rfl) ?_
      refine sv (yIxA rfl rfl Try.runUnderlying80 Try.sizeOf3 (by omega) (by omega)) ?_
      refine sv (yLdB rfl Try.isAgg3 (hS.at _) rfl) ?_
      refine sv (yIxA rfl rfl Try.runUnderlying80 Try.sizeOf3 (by omega) (by omega)) ?_
      refine sv (yLdB rfl Try.isAgg3 (hS.at _) rfl) ?_
      refine scall Try.call29 (.cons rfl (.cons rfl (.cons rfl .nil))) (c_Able (h.ext hS.ext)) ?_
      rintro _ w ⟨rfl, hE⟩; replace hS := hS.step hE; clear hE
      refine sv (yMove rfl) ?_
      refine sv (yExt rfl rfl) ?_
      refine sv (yExt rfl rfl) ?_
      refine sv (yExt rfl rfl) ?_
      refine sv (yAsg rfl) ?_
      refine sv (yAsg rfl) ?_
      refine sv (yAsg rfl) ?_
      refine nil ?_
      show Code.wp _ _ _ _ _
      refine seq ?_
      refine region ?_
      refine sv (yLdBA rfl Try.isAgg26 Try.sizeOf26 (hS.at _) rfl rfl) ?_
      refine sv (yIxA rfl rfl Try.runUnderlying80 Try.sizeOf3 (by omega) (by omega)) ?_
      refine sv (yLdB rfl Try.isAgg3 (hS.at _) rfl) ?_
      refine sv (yIxA rfl rfl Try.runUnderlying80 Try.sizeOf3 (by omega) (by omega)) ?_
      refine sv (yLdB rfl Try.isAgg3 (hS.at _) rfl) ?_
      refine scall Try.call35 (.cons rfl (.cons rfl (.cons rfl .nil))) (c_rAble (h.ext hS.ext)) ?_
      rintro _ w ⟨rfl, hE⟩; replace hS := hS.step hE; clear hE
      refine sv (yMove rfl) ?_
      refine sv (yExt rfl rfl) ?_
      refine sv (yExt rfl rfl) ?_
      refine sv (yExt rfl rfl) ?_
      refine sv (yAsg rfl) ?_
      refine sv (yAsg rfl) ?_
      refine sv (yAsg rfl) ?_
      refine nil ?_
      show Code.wp _ _ _ _ _
      refine seq ?_
      refine region ?_
      refine sv (yMove rfl) ?_
      refine sv (yMove rfl) ?_
      refine sv (yEql rfl rfl) ?_
      refine sv (yMove rfl) ?_
      refine sg rfl rfl rfl (fun g => (yMove rfl)) (fun v88 g88 => ?_)
      refine sg rfl rfl rfl (fun g => (yMove rfl)) (fun v89 g89 => ?_)
      refine sg rfl rfl rfl (fun g => (yEql (g88.1 g) (g89.1 g))) (fun v90 g90 => ?_)
      refine sv (yAnd rfl (fun hB => (g90.1 hB)) rfl) ?_
      refine sv (yMove rfl) ?_
      refine sg rfl rfl rfl (fun g => (yMove rfl)) (fun v93 g93 => ?_)
      refine sg rfl rfl rfl (fun g => (yMove rfl)) (fun v94 g94 => ?_)
      refine sg rfl rfl rfl (fun g => (yEql (g93.1 g) (g94.1 g))) (fun v95 g95 => ?_)
      refine sv (yAnd rfl (fun hB => (g95.1 hB)) rfl) ?_
      refine sv (yMove rfl) ?_
      refine sgc hS rfl rfl rfl Try.call18 (fun g => .nil) (fun g => c_Awake) ?_; clear hS; intro v98 w hS g98
      refine sv (yAnd rfl (fun hB => (g98.1 hB)) rfl) ?_
      refine sv (yAsg rfl) ?_
      refine nil ?_
      show Code.wp _ _ _ _ _
      refine wp_ret ?_
      exact retV (res1 rfl (eqB (by simp))) hS.ext
set_option maxHeartbeats 1000000 in
/-- barrage/barrageref10.step -/
theorem c_rstep {c : Crew} {cs : List Value} {i : Nat} {x : Stp} {w0 : World} (h : RCrew w0 cs c) (hi : i ≤ 1000) : CV Try.prog 55 #[.agg cs.toArray, .int .i64 (i : Int), .agg (stpC x).toArray] w0 (.int .i64 (stepE c i x)) := by
  obtain ⟨ov, kv, nv, rfl, hso, hsk, hsn, hrm⟩ := id h
  obtain ⟨a, cap, rfl, hcap, hmx, hel⟩ := id hso
  obtain ⟨an, cn, rfl, hncap, hnmx, -⟩ := id hsn
  refine enter Try.func55 rfl Try.ntmps55 rfl ?_
  have hS := St.start w0
  refine seq ?_
  refine region ?_
  refine sbox hS rfl rfl ?_; clear hS; intro b3 w hS
  refine sbox hS rfl rfl ?_; clear hS; intro b5 w hS
  refine sv (yAsg rfl) ?_
  refine nil ?_
  show Code.wp _ _ _ _ _
  refine seq ?_
  refine seq ?_
  refine region ?_
  refine sv (fa89_0 rfl) ?_
  refine sv (yLdB rfl Try.isAgg3 (hS.at _) rfl) ?_
  refine sv (fa26_2 rfl) ?_
  refine sv (yLdB rfl Try.isAgg24 (hS.at _) rfl) ?_
  refine sv (yLen rfl Try.underlying24) ?_
  refine sv (ySub rfl rfl ⟨by omega, by omega⟩) ?_
  refine scall Try.call54 (.cons rfl (.cons rfl (.cons rfl .nil))) c_in ?_
  rintro _ w ⟨rfl, hE⟩; replace hS := hS.step hE; clear hE
  refine sv (yNot rfl) ?_
  refine nil ?_
  show Code.wp _ _ _ _ _
  refine cond rfl (fun c14 => ?_) (fun c14 => ?_)
  ·
    refine seq ?_
    refine region ?_
    refine sv (yAsg rfl) ?_
    refine nil ?_
    show Code.wp _ _ _ _ _
    refine wp_ret (thenR ?_)
    exact retV (res1 rfl (eqI (stepE_1 c14))) hS.ext
  ·
    refine skip ?_
    show Code.wp _ _ _ _ _
    refine seq ?_
    refine seq ?_
    refine region ?_
    refine sv (fa89_1 rfl) ?_
    refine sv (yLdB rfl Try.isAgg3 (hS.at _) rfl) ?_
    refine scall Try.call54 (.cons rfl (.cons rfl (.cons rfl .nil))) c_in ?_
    rintro _ w ⟨rfl, hE⟩; replace hS := hS.step hE; clear hE
    refine sv (yNot rfl) ?_
    refine nil ?_
    show Code.wp _ _ _ _ _
    refine cond rfl (fun c18 => ?_) (fun c18 => ?_)
    ·
      refine seq ?_
      refine region ?_
      refine sv (yAsg rfl) ?_
      refine nil ?_
      show Code.wp _ _ _ _ _
      refine wp_ret (thenR ?_)
      exact retV (res1 rfl (eqI (stepE_2 c14 c18))) hS.ext
    ·
      refine skip ?_
      show Code.wp _ _ _ _ _
      refine seq ?_
      refine seq ?_
      refine region ?_
      refine sv (fa89_2 rfl) ?_
      refine sv (yLdB rfl Try.isAgg3 (hS.at _) rfl) ?_
      refine sv (yMove rfl) ?_
      refine sv (ySub rfl rfl ⟨by omega, by omega⟩) ?_
      refine scall Try.call54 (.cons rfl (.cons rfl (.cons rfl .nil))) c_in ?_
      rintro _ w ⟨rfl, hE⟩; replace hS := hS.step hE; clear hE
      refine sv (yNot rfl) ?_
      refine nil ?_
      show Code.wp _ _ _ _ _
      refine cond rfl (fun c24 => ?_) (fun c24 => ?_)
      ·
        refine seq ?_
        refine region ?_
        refine sv (yAsg rfl) ?_
        refine nil ?_
        show Code.wp _ _ _ _ _
        refine wp_ret (thenR ?_)
        exact retV (res1 rfl (eqI (stepE_3 c14 c18 c24))) hS.ext
      ·
        refine skip ?_
        show Code.wp _ _ _ _ _
        refine seq ?_
        refine seq ?_
        refine region ?_
        refine sv (fa89_4 rfl) ?_
        refine sv (yLdB rfl Try.isAgg3 (hS.at _) rfl) ?_
        refine scall Try.call54 (.cons rfl (.cons rfl (.cons rfl .nil))) c_in ?_
        rintro _ w ⟨rfl, hE⟩; replace hS := hS.step hE; clear hE
        refine sv (yNot rfl) ?_
        refine sv (yMove rfl) ?_
        refine sg rfl rfl rfl (fun g => (fa89_3 rfl)) (fun v30 g30 => ?_)
        refine sg rfl rfl rfl (fun g => (yLdB (g30.1 g) Try.isAgg3 (hS.at _) rfl)) (fun v31 g31 => ?_)
        refine sg rfl rfl rfl (fun g => (fa89_4 rfl)) (fun v32 g32 => ?_)
        refine sg rfl rfl rfl (fun g => (yLdB (g32.1 g) Try.isAgg3 (hS.at _) rfl)) (fun v33 g33 => ?_)
        refine sgc hS rfl rfl rfl Try.call54 (fun g => (.cons (g31.1 g) (.cons rfl (.cons (g33.1 g) .nil)))) (fun g => c_in) ?_; clear hS; intro v34 w hS g34
        refine sg rfl rfl rfl (fun g => (yNot (g34.1 g))) (fun v35 g35 => ?_)
        refine sv (yOr rfl rfl (fun hB => (g35.1 hB))) ?_
        refine nil ?_
        show Code.wp _ _ _ _ _
        refine cond rfl (fun c36 => ?_) (fun c36 => ?_)
        ·
          refine seq ?_
          refine region ?_
          refine sv (yAsg rfl) ?_
          refine nil ?_
          show Code.wp _ _ _ _ _
          refine wp_ret (thenR ?_)
          exact retV (res1 rfl (eqI (stepE_4 c14 c18 c24 c36))) hS.ext
        ·
          refine skip ?_
          show Code.wp _ _ _ _ _
          refine seq ?_
          refine region ?_
          refine sv (yAsg rfl) ?_
          refine nil ?_
          show Code.wp _ _ _ _ _
          refine wp_ret ?_
          exact retV (res1 rfl (eqI (stepE_0 c14 c18 c24 c36))) hS.ext
set_option maxHeartbeats 1000000 in
/-- barrage/barrageref10.CheckScript -/
theorem c_rCheckScript {c : Crew} {cs ss : List Value} {s : Scr} {w0 : World} (h : RCrew w0 cs c) (hs : RScr w0 ss s) : CV Try.prog 24 #[.agg cs.toArray, .agg ss.toArray] w0 (.tuple #[.int .i64 (scriptF c s).1, .int .i64 (scriptF c s).2]) := by
  obtain ⟨ov, kv, nv, rfl, hso, hsk, hsn, hrm⟩ := id h
  obtain ⟨a, cap, rfl, hcap, hmx, hel⟩ := id hso
  obtain ⟨sv, rfl, hsz, hst⟩ := id hs
  obtain ⟨ax, cps, rfl, hscap, hsmx, hels⟩ := id hst
  refine enter Try.func24 rfl Try.ntmps24 rfl ?_
  have hS := St.start w0
  refine seq ?_
  refine region ?_
  refine sbox hS rfl rfl ?_; clear hS; intro b2 w hS
  refine sbox hS rfl rfl ?_; clear hS; intro b3 w hS
  refine sv (yAsg rfl) ?_
  refine sv (yAsg rfl) ?_
  refine nil ?_
  show Code.wp _ _ _ _ _
  refine seq ?_
  refine region ?_
  refine sv (yLdBA rfl Try.isAgg26 Try.sizeOf26 (hS.at _) rfl rfl) ?_
  refine scall Try.call32 (.cons rfl .nil) (c_rCheck (h.ext hS.ext)) ?_
  rintro _ w ⟨rfl, hE⟩; replace hS := hS.step hE; clear hE
  refine sv (yMove rfl) ?_
  refine sv (yExt rfl rfl) ?_
  refine sv (yExt rfl rfl) ?_
  refine sv (yExt rfl rfl) ?_
  refine sv (yAsg rfl) ?_
  refine sv (yAsg rfl) ?_
  refine sv (yAsg rfl) ?_
  refine nil ?_
  show Code.wp _ _ _ _ _
  refine seq ?_
  refine seq ?_
  refine region ?_
  refine sv (yMove rfl) ?_
  refine sv (yNeq rfl rfl) ?_
  refine nil ?_
  show Code.wp _ _ _ _ _
  refine cond rfl (fun c18 => ?_) (fun c18 => ?_)
  ·
    simp only [Bool.and_eq_true, Bool.or_eq_true, Bool.and_eq_false_iff, Bool.or_eq_false_iff, decide_eq_true_eq, decide_eq_false_iff_not, Bool.not_eq_true, Bool.not_eq_false, Bool.not_not, Bool.not_eq_eq_eq_not, Bool.not_true, Bool.not_false, Bool.false_eq_true, Bool.true_eq_false, ne_eq, Decidable.not_not, not_false_eq_true, not_true_eq_false] at c18
    refine seq ?_
    refine region ?_
    refine sv (yMove rfl) ?_
    refine sv (yAsg rfl) ?_
    refine sv (yAsg rfl) ?_
    refine nil ?_
    show Code.wp _ _ _ _ _
    have hfin := scriptF_1 (s := s) c18
    refine wp_ret (thenR ?_)
    exact retV (res2 rfl (eqI (by rw [hfin])) (eqI (by rw [hfin]))) hS.ext
  ·
    simp only [Bool.and_eq_true, Bool.or_eq_true, Bool.and_eq_false_iff, Bool.or_eq_false_iff, decide_eq_true_eq, decide_eq_false_iff_not, Bool.not_eq_true, Bool.not_eq_false, Bool.not_not, Bool.not_eq_eq_eq_not, Bool.not_true, Bool.not_false, Bool.false_eq_true, Bool.true_eq_false, ne_eq, Decidable.not_not, not_false_eq_true, not_true_eq_false] at c18
    refine skip ?_
    show Code.wp _ _ _ _ _
    refine seq ?_
    refine seq ?_
    refine region ?_
    refine sv (fa29_0 rfl) ?_
    refine sv (yLdB rfl Try.isAgg9 (hS.at _) rfl) ?_
    refine scall Try.call53 (.cons rfl .nil) (c_rName hsz) ?_
    rintro _ w ⟨rfl, hE⟩; replace hS := hS.step hE; clear hE
    refine sv (yNot rfl) ?_
    refine nil ?_
    show Code.wp _ _ _ _ _
    refine cond rfl (fun c23 => ?_) (fun c23 => ?_)
    ·
      refine seq ?_
      refine region ?_
      refine sv (yAsg rfl) ?_
      refine sv (yAsg rfl) ?_
      refine nil ?_
      show Code.wp _ _ _ _ _
      have hfin := scriptF_2 c18 c23
      refine wp_ret (thenR ?_)
      exact retV (res2 rfl (eqI (by rw [hfin])) (eqI (by rw [hfin]))) hS.ext
    ·
      refine skip ?_
      show Code.wp _ _ _ _ _
      refine seq ?_
      refine seq ?_
      refine region ?_
      refine sv (fa29_1 rfl) ?_
      refine sv (yLdB rfl Try.isAgg27 (hS.at _) rfl) ?_
      refine sv (yLen rfl Try.underlying27) ?_
      refine scall Try.call54 (.cons rfl (.cons rfl (.cons rfl .nil))) c_in ?_
      rintro _ w ⟨rfl, hE⟩; replace hS := hS.step hE; clear hE
      refine sv (yNot rfl) ?_
      refine nil ?_
      show Code.wp _ _ _ _ _
      refine cond rfl (fun c28 => ?_) (fun c28 => ?_)
      ·
        refine seq ?_
        refine region ?_
        refine sv (yAsg rfl) ?_
        refine sv (yAsg rfl) ?_
        refine nil ?_
        show Code.wp _ _ _ _ _
        have hfin := scriptF_3 c18 c23 c28
        refine wp_ret (thenR ?_)
        exact retV (res2 rfl (eqI (by rw [hfin])) (eqI (by rw [hfin]))) hS.ext
      ·
        have hfin0 := scriptF_4 c18 c23 c28
        have hle : 1 ≤ (s.steps.length : Int) ∧ (s.steps.length : Int) ≤ 10 := by have := c28; rw [inB_not, outB_false] at this; exact this
        refine skip ?_
        show Code.wp _ _ _ _ _
        refine seq ?_
        refine seq ?_
        refine region ?_
        refine sv (yAsg rfl) ?_
        refine nil ?_
        show Code.wp _ _ _ _ _
        refine block ?_
        refine loop (fun f w zz => ∃ (k : Nat), f 2 = .pointer (some ⟨b2, 0, none⟩) ∧ f 3 = .pointer (some ⟨b3, 0, none⟩) ∧ f 9 = .int .i64 (k : Int) ∧ StX [] w0 w [blk b3 [.string s.name, .slice ax s.steps.length cps] 29, blk b2 [.slice a c.ops.length cap, kv, nv] 26] ∧ (k ≤ s.steps.length) ∧ (firstS c s.steps 0 = firstS c (s.steps.drop k) k) ∧ zz = s.steps.length - k) _ ⟨_, rfl, 0, rfl, rfl, rfl, hS, (Nat.zero_le _), (rfl), rfl⟩ ?_
        clear hS
        rintro f w _ ⟨k, h2, h3, h9, hS, hk, hF, rfl⟩
        refine seq ?_
        refine seq ?_
        refine region ?_
        refine sv (yMove h9) ?_
        refine sv (fa29_1 h3) ?_
        refine sv (yLdB rfl Try.isAgg27 (hS.at _) rfl) ?_
        refine sv (yLen rfl Try.underlying27) ?_
        refine sv (yLss rfl rfl) ?_
        refine nil ?_
        show Code.wp _ _ _ _ _
        refine cond rfl (fun c33 => ?_) (fun c33 => ?_)
        ·
          simp only [Bool.and_eq_true, Bool.or_eq_true, Bool.and_eq_false_iff, Bool.or_eq_false_iff, decide_eq_true_eq, decide_eq_false_iff_not, Bool.not_eq_true, Bool.not_eq_false, Bool.not_not, Bool.not_eq_eq_eq_not, Bool.not_true, Bool.not_false, Bool.false_eq_true, Bool.true_eq_false, ne_eq, Decidable.not_not, not_false_eq_true, not_true_eq_false] at c33
          refine skip ?_
          show Code.wp _ _ _ _ _
          refine seq ?_
          refine block ?_
          refine seq ?_
          refine region_draw mixed (by kernel_rfl) hS ?_
          obtain ⟨x, hxq, hdq⟩ := drop_of (l := s.steps) (k := k) (by omega)
          obtain ⟨bq, oq, csq, haq, hlenq, hcsq, hRq⟩ := hels (k) (by omega)
          obtain rfl : x = s.steps[k] := (List.getElem?_eq_some_iff.1 hxq).2.symm
          generalize s.steps[k] = x at hxq hdq hRq
          obtain ⟨rfl, hxi⟩ := hRq
          refine qv (fun w hS => (yLdBA h2 Try.isAgg26 Try.sizeOf26 (hS.at _) rfl rfl)) ?_
          refine qv (fun w hS => (yMove h9)) ?_
          refine qv (fun w hS => (fa29_1 h3)) ?_
          refine qv (fun w hS => (yLdB rfl Try.isAgg27 (hS.at _) rfl)) ?_
          refine qv (fun w hS => (yMove h9)) ?_
          refine qv (fun w hS => (yIxa rfl haq rfl Try.runUnderlying27 Try.sizeOf89 (by omega) (by omega))) ?_
          refine qv (fun w hS => (yLdA rfl Try.isAgg89 Try.sizeOf89 (hcsq.ext hS.ext) rfl)) ?_
          refine qcall Try.call55 (.cons rfl (.cons rfl (.cons rfl .nil))) (fun w hS => (c_rstep (h.ext hS.ext) (by omega))) ?_
          refine qv (fun w hS => (yAsg rfl)) ?_
          clear hS; refine qnil (fun w hS => ?_)
          show Code.wp _ _ _ _ _
          refine seq ?_
          refine region ?_
          refine sv (yMove rfl) ?_
          refine sv (yNeq rfl rfl) ?_
          refine nil ?_
          show Code.wp _ _ _ _ _
          refine cond rfl (fun c45 => ?_) (fun c45 => ?_)
          ·
            simp only [Bool.and_eq_true, Bool.or_eq_true, Bool.and_eq_false_iff, Bool.or_eq_false_iff, decide_eq_true_eq, decide_eq_false_iff_not, Bool.not_eq_true, Bool.not_eq_false, Bool.not_not, Bool.not_eq_eq_eq_not, Bool.not_true, Bool.not_false, Bool.false_eq_true, Bool.true_eq_false, ne_eq, Decidable.not_not, not_false_eq_true, not_true_eq_false] at c45
            refine seq ?_
            refine region ?_
            refine sv (yMove h9) ?_
            refine sv (yMove rfl) ?_
            refine sv (yAsg rfl) ?_
            refine sv (yAsg rfl) ?_
            refine nil ?_
            show Code.wp _ _ _ _ _
            have hfin : scriptF c s = ((k : Int), stepE c k x) := by rw [hfin0, hF, firstS_hit hdq c45]
            refine wp_ret (blockR (thenR (thenR (blockR (thenR ?_)))))
            exact retV (res2 rfl (eqI (by rw [hfin])) (eqI (by rw [hfin]))) hS.ext
          ·
            simp only [Bool.and_eq_true, Bool.or_eq_true, Bool.and_eq_false_iff, Bool.or_eq_false_iff, decide_eq_true_eq, decide_eq_false_iff_not, Bool.not_eq_true, Bool.not_eq_false, Bool.not_not, Bool.not_eq_eq_eq_not, Bool.not_true, Bool.not_false, Bool.false_eq_true, Bool.true_eq_false, ne_eq, Decidable.not_not, not_false_eq_true, not_true_eq_false] at c45
            refine skip ?_
            show Code.wp _ _ _ _ _
            refine region ?_
            refine sv (yMove h9) ?_
            refine sv (yAdd rfl rfl ⟨by omega, by omega⟩) ?_
            refine sv (yAsg rfl) ?_
            refine nil ?_
            exact ⟨_, _, rfl, ⟨k + 1, h2, h3, rfl, hS, (by omega), (by rw [hF, firstS_drop hdq c45]), rfl⟩, by omega⟩
        ·
          simp only [Bool.and_eq_true, Bool.or_eq_true, Bool.and_eq_false_iff, Bool.or_eq_false_iff, decide_eq_true_eq, decide_eq_false_iff_not, Bool.not_eq_true, Bool.not_eq_false, Bool.not_not, Bool.not_eq_eq_eq_not, Bool.not_true, Bool.not_false, Bool.false_eq_true, Bool.true_eq_false, ne_eq, Decidable.not_not, not_false_eq_true, not_true_eq_false] at c33
          refine exit ?_
          show Code.wp _ _ _ _ _
          refine seq ?_
          refine region ?_
          refine sv (yAsg rfl) ?_
          refine sv (yAsg rfl) ?_
          refine nil ?_
          show Code.wp _ _ _ _ _
          have hfin : scriptF c s = (0, 0) := by rw [hfin0, hF, List.drop_of_length_le (by omega)]; rfl
          refine wp_ret ?_
          exact retV (res2 rfl (eqI (by rw [hfin])) (eqI (by rw [hfin]))) hS.ext
set_option maxHeartbeats 4000000 in
/-- barrage/barrageref10.Windows -/
theorem c_rWindows {c : Crew} {cs ss : List Value} {s : Scr} {w0 : World} (h : RCrew w0 cs c) (hs : RScr w0 ss s) : CE Try.prog 26 #[.agg cs.toArray, .agg ss.toArray] w0 (fun u w' => ∃ lv, u = .tuple #[lv, .int .i64 (scriptF c s).2] ∧ St w0 w' [rowI lv 86 2 (winF c s).length ((winF c s).flatMap pC)]) := by
  obtain ⟨ov, kv, nv, rfl, hso, hsk, hsn, hrm⟩ := id h
  obtain ⟨a, cap, rfl, hcap, hmx, hel⟩ := id hso
  obtain ⟨sv, rfl, hsz, hst⟩ := id hs
  obtain ⟨ax, cps, rfl, hscap, hsmx, hels⟩ := id hst
  refine enter Try.func26 rfl Try.ntmps26 rfl ?_
  have hS := St.start w0
  refine seq ?_
  refine region ?_
  refine sbox hS rfl rfl ?_; clear hS; intro b2 w hS
  refine sbox hS rfl rfl ?_; clear hS; intro b3 w hS
  refine sv (yAsg rfl) ?_
  refine sv (yAsg rfl) ?_
  refine nil ?_
  show Code.wp _ _ _ _ _
  refine seq ?_
  refine region ?_
  refine sv (yLdBA rfl Try.isAgg26 Try.sizeOf26 (hS.at _) rfl rfl) ?_
  refine sv (yLdBA rfl Try.isAgg29 Try.sizeOf29 (hS.at _) rfl rfl) ?_
  refine scall Try.call24 (.cons rfl (.cons rfl .nil)) (c_rCheckScript (h.ext hS.ext) (hs.ext hS.ext)) ?_
  rintro _ w ⟨rfl, hE⟩; replace hS := hS.step hE; clear hE
  refine sv (yMove rfl) ?_
  refine sv (yExt rfl rfl) ?_
  refine sv (yExt rfl rfl) ?_
  refine sv (yAsg rfl) ?_
  refine sv (yAsg rfl) ?_
  refine nil ?_
  show Code.wp _ _ _ _ _
  refine seq ?_
  refine seq ?_
  refine region ?_
  refine sv (yMove rfl) ?_
  refine sv (yNeq rfl rfl) ?_
  refine nil ?_
  show Code.wp _ _ _ _ _
  refine cond rfl (fun c19 => ?_) (fun c19 => ?_)
  ·
    simp only [Bool.and_eq_true, Bool.or_eq_true, Bool.and_eq_false_iff, Bool.or_eq_false_iff, decide_eq_true_eq, decide_eq_false_iff_not, Bool.not_eq_true, Bool.not_eq_false, Bool.not_not, Bool.not_eq_eq_eq_not, Bool.not_true, Bool.not_false, Bool.false_eq_true, Bool.true_eq_false, ne_eq, Decidable.not_not, not_false_eq_true, not_true_eq_false] at c19
    refine seq ?_
    refine region ?_
    refine sv (yMove rfl) ?_
    refine sv (yAsg rfl) ?_
    refine sv (yAsg rfl) ?_
    refine nil ?_
    show Code.wp _ _ _ _ _
    refine wp_ret (thenR ?_)
    refine retQ (res2 rfl rfl rfl) ?_
    exact ⟨_, rfl, by rw [winF_bad c19]; exact (hS.nilrow 86 2).sub (.cons_cons _ (List.nil_sublist _))⟩
  ·
    simp only [Bool.and_eq_true, Bool.or_eq_true, Bool.and_eq_false_iff, Bool.or_eq_false_iff, decide_eq_true_eq, decide_eq_false_iff_not, Bool.not_eq_true, Bool.not_eq_false, Bool.not_not, Bool.not_eq_eq_eq_not, Bool.not_true, Bool.not_false, Bool.false_eq_true, Bool.true_eq_false, ne_eq, Decidable.not_not, not_false_eq_true, not_true_eq_false] at c19
    have hok := scrOk_of c19
    have hlen := hok.len
    refine skip ?_
    show Code.wp _ _ _ _ _
    refine seq ?_
    refine region ?_
    refine sv (yAsg rfl) ?_
    refine nil ?_
    show Code.wp _ _ _ _ _
    refine seq ?_
    refine seq ?_
    refine region ?_
    refine sv (yAsg rfl) ?_
    refine nil ?_
    show Code.wp _ _ _ _ _
    refine block ?_
    refine loop (fun f w zz => ∃ (k : Nat) (lv : Value), f 3 = .pointer (some ⟨b3, 0, none⟩) ∧ f 8 = lv ∧ f 9 = .int .i64 (k : Int) ∧ StX [] w0 w [rowI lv 86 2 k ((winL (s.steps.take k)).flatMap pC), blk b3 [.string s.name, .slice ax s.steps.length cps] 29, blk b2 [.slice a c.ops.length cap, kv, nv] 26] ∧ (k ≤ s.steps.length) ∧ zz = s.steps.length - k) _ ⟨_, rfl, 0, _, rfl, rfl, rfl, (hS.nilrow 86 2), (Nat.zero_le _), rfl⟩ ?_
    clear hS
    rintro f w _ ⟨k, lv, h3, h8, h9, hS, hk, rfl⟩
    refine seq ?_
    refine seq ?_
    refine region ?_
    refine sv (yMove h9) ?_
    refine sv (fa29_1 h3) ?_
    refine sv (yLdB rfl Try.isAgg27 (hS.at _) rfl) ?_
    refine sv (yLen rfl Try.underlying27) ?_
    refine sv (yLss rfl rfl) ?_
    refine nil ?_
    show Code.wp _ _ _ _ _
    refine cond rfl (fun c25 => ?_) (fun c25 => ?_)
    ·
      simp only [Bool.and_eq_true, Bool.or_eq_true, Bool.and_eq_false_iff, Bool.or_eq_false_iff, decide_eq_true_eq, decide_eq_false_iff_not, Bool.not_eq_true, Bool.not_eq_false, Bool.not_not, Bool.not_eq_eq_eq_not, Bool.not_true, Bool.not_false, Bool.false_eq_true, Bool.true_eq_false, ne_eq, Decidable.not_not, not_false_eq_true, not_true_eq_false] at c25
      refine skip ?_
      show Code.wp _ _ _ _ _
      refine seq ?_
      refine block ?_
      refine seq ?_
      refine region ?_
      obtain ⟨x, hxq, hdq⟩ := drop_of (l := s.steps) (k := k) (by omega)
      obtain ⟨bq, oq, csq, haq, hlenq, hcsq, hRq⟩ := hels (k) (by omega)
      obtain rfl : x = s.steps[k] := (List.getElem?_eq_some_iff.1 hxq).2.symm
      generalize s.steps[k] = x at hxq hdq hRq
      obtain ⟨rfl, hxi⟩ := hRq
      have hsx := hok.steps k x hxq
      have hx1 := hsx.after
      have hx2 := hsx.most
      have hx3 := hsx.least
      refine sv (fa29_1 h3) ?_
      refine sv (yLdB rfl Try.isAgg27 (hS.at _) rfl) ?_
      refine sv (yMove h9) ?_
      refine sv (yIxa rfl haq rfl Try.runUnderlying27 Try.sizeOf89 (by omega) (by omega)) ?_
      refine sv (yLdA rfl Try.isAgg89 Try.sizeOf89 (hcsq.ext hS.ext) rfl) ?_
      refine salloc hS Try.zeroValue89 rfl ?_; clear hS; intro b10 w hS
      refine sst hS rfl rfl Try.sizeOf89 rfl rfl rfl rfl ?_; clear hS; intro w hS
      refine nil ?_
      show Code.wp _ _ _ _ _
      refine seq ?_
      refine region ?_
      refine sv (yBuild Try.zeroValue86 rfl pl86 .nil rfl) ?_
      refine salloc hS Try.zeroValue86 rfl ?_; clear hS; intro b11 w hS
      refine sst hS rfl rfl Try.sizeOf86 rfl rfl rfl rfl ?_; clear hS; intro w hS
      refine nil ?_
      show Code.wp _ _ _ _ _
      refine seqJ (n := 57) (fun f w => ∃ (lv : Value) (y : Int × Int), f 3 = .pointer (some ⟨b3, 0, none⟩) ∧ f 8 = lv ∧ f 9 = .int .i64 (k : Int) ∧ f 10 = .pointer (some ⟨b10, 0, none⟩) ∧ f 11 = .pointer (some ⟨b11, 0, none⟩) ∧ StX [] w0 w [blk b11 (pC y) 86, blk b10 (stpC x) 89, rowI lv 86 2 k ((winL (s.steps.take k)).flatMap pC), blk b3 [.string s.name, .slice ax s.steps.length cps] 29, blk b2 [.slice a c.ops.length cap, kv, nv] 26] ∧ ((0 ≤ y.1 ∧ y.1 ≤ 240 * (k : Int)) ∧ 0 ≤ y.2 ∧ y.2 ≤ 240 * (k : Int)) ∧ (winS (winL (s.steps.take k)) x = (y.1 + x.least, y.2 + x.most)) ∧ True) ?_ ?_
      ·
        refine seq ?_
        refine region ?_
        replace hS : StX [] w0 w (blk b11 (pC ((0 : Int), (0 : Int))) 86 :: blk b10 (stpC x) 89 :: rowI lv 86 2 k ((winL (s.steps.take k)).flatMap pC) :: blk b3 [.string s.name, .slice ax s.steps.length cps] 29 :: blk b2 [.slice a c.ops.length cap, kv, nv] 26 :: []) := hS
        refine sv (fa89_2 rfl) ?_
        refine sv (yLdB rfl Try.isAgg3 (hS.at _) rfl) ?_
        refine sv (yGeq rfl rfl) ?_
        refine nil ?_
        show Code.wp _ _ _ _ _
        refine cond rfl (fun c36 => ?_) (fun c36 => ?_)
        ·
          simp only [Bool.and_eq_true, Bool.or_eq_true, Bool.and_eq_false_iff, Bool.or_eq_false_iff, decide_eq_true_eq, decide_eq_false_iff_not, Bool.not_eq_true, Bool.not_eq_false, Bool.not_not, Bool.not_eq_eq_eq_not, Bool.not_true, Bool.not_false, Bool.false_eq_true, Bool.true_eq_false, ne_eq, Decidable.not_not, not_false_eq_true, not_true_eq_false] at c36
          refine region ?_
          obtain ⟨g, chl, rfl, -⟩ := row_some (hS.row lv) (by omega)
          obtain ⟨q, hq⟩ := Int.eq_ofNat_of_zero_le c36
          obtain ⟨y, hy, -⟩ := drop_of (l := winL (s.steps.take k)) (k := q) (by rw [winL_len, List.length_take]; omega)
          have hyb := winL_bd hok.steps k (by omega) y (List.mem_of_getElem? hy)
          refine sv (yMove h8) ?_
          refine sv (fa89_2 rfl) ?_
          refine sv (yLdB rfl Try.isAgg3 (hS.at _) rfl) ?_
          refine sv (yIx0 rfl (rfl.trans (congrArg (Value.int .i64) hq)) Try.runUnderlying62 Try.sizeOf86 (by omega)) ?_
          refine sv (yLdA rfl Try.isAgg86 Try.sizeOf86 (flat_cells0 pC_len (row_at (hS.row (.slice (some ⟨g, 0, none⟩) k chl)) rfl (by omega)) hy) rfl) ?_
          refine sst hS rfl rfl Try.sizeOf86 rfl rfl rfl rfl ?_; clear hS; intro w hS
          refine nil ?_
          exact ⟨_, rfl, _, y, h3, h8, h9, rfl, rfl, hS, (hyb), (winS_ref hq hy), trivial⟩
        ·
          simp only [Bool.and_eq_true, Bool.or_eq_true, Bool.and_eq_false_iff, Bool.or_eq_false_iff, decide_eq_true_eq, decide_eq_false_iff_not, Bool.not_eq_true, Bool.not_eq_false, Bool.not_not, Bool.not_eq_eq_eq_not, Bool.not_true, Bool.not_false, Bool.false_eq_true, Bool.true_eq_false, ne_eq, Decidable.not_not, not_false_eq_true, not_true_eq_false] at c36
          refine skip ?_
          exact ⟨_, rfl, _, (0, 0), h3, h8, h9, rfl, rfl, hS, (by dsimp only; omega), (by rw [winS_no (by omega), Int.zero_add, Int.zero_add]), trivial⟩
      ·
        clear hS; rintro f w ⟨lv, y, h3, h8, h9, h10, h11, hS, hyb, hwin, -⟩
        refine region ?_
        refine sv (yMove h8) ?_
        refine sv (fa86_0 h11) ?_
        refine sv (yLdB rfl Try.isAgg3 (hS.at _) rfl) ?_
        refine sv (fa89_3 h10) ?_
        refine sv (yLdB rfl Try.isAgg3 (hS.at _) rfl) ?_
        refine sv (yAdd rfl rfl ⟨by omega, by omega⟩) ?_
        refine sv (fa86_1 h11) ?_
        refine sv (yLdB rfl Try.isAgg3 (hS.at _) rfl) ?_
        refine sv (fa89_4 h10) ?_
        refine sv (yLdB rfl Try.isAgg3 (hS.at _) rfl) ?_
        refine sv (yAdd rfl rfl ⟨by omega, by omega⟩) ?_
        refine sv (yBuild Try.zeroValue86 rfl pl86 (.cons rfl rfl (.cons rfl rfl .nil)) rfl) ?_
        refine sbslice hS Try.underlying62 Try.sizeOf86 rfl Try.zeroValue86 rfl (.cons rfl rfl .nil) rfl ?_; clear hS; intro b54 w hS
        refine sapp (bytes := 16) (size := 2) (v := lv) (m := 1) hS rfl rfl Try.underlying62 ti86 rfl rfl rfl rfl (by decide) (blk_cells (hS.at _)) rfl rfl (by omega) (by omega) ?_; clear hS; intro v55 w hS
        refine sv (yAsg rfl) ?_
        refine nil ?_
        show Code.wp _ _ _ _ _
        refine region ?_
        refine sv (yMove h9) ?_
        refine sv (yAdd rfl rfl ⟨by omega, by omega⟩) ?_
        refine sv (yAsg rfl) ?_
        refine nil ?_
        exact ⟨_, _, rfl, ⟨k + 1, v55, h3, rfl, rfl, (by rw [winL_take hxq, List.flatMap_append, hwin]; exact hS.sub (.cons _ (.cons _ (.cons _ (List.Sublist.refl _))))), (by omega), rfl⟩, by omega⟩
    ·
      simp only [Bool.and_eq_true, Bool.or_eq_true, Bool.and_eq_false_iff, Bool.or_eq_false_iff, decide_eq_true_eq, decide_eq_false_iff_not, Bool.not_eq_true, Bool.not_eq_false, Bool.not_not, Bool.not_eq_eq_eq_not, Bool.not_true, Bool.not_false, Bool.false_eq_true, Bool.true_eq_false, ne_eq, Decidable.not_not, not_false_eq_true, not_true_eq_false] at c25
      refine exit ?_
      show Code.wp _ _ _ _ _
      refine seq ?_
      refine region ?_
      refine sv (yMove h8) ?_
      refine sv (yAsg rfl) ?_
      refine sv (yAsg rfl) ?_
      refine nil ?_
      show Code.wp _ _ _ _ _
      refine wp_ret ?_
      refine retQ (res2 rfl rfl rfl) ?_
      obtain rfl : k = s.steps.length := by omega
      rw [List.take_length] at hS
      exact ⟨lv, by (rw [c19]; try rfl), by rw [winF_ok c19, winL_len]; exact hS.sub (.cons_cons _ (List.nil_sublist _))⟩
set_option maxHeartbeats 4000000 in
/-- barrage/barragelaw10.CrewScripts -/
theorem w_CrewScripts {c : Crew} {cs ss : List Value} {s : Scr} {w0 : World} (h : RCrew w0 cs c) (hs : RScr w0 ss s) : CV Try.prog 7 #[.agg cs.toArray, .agg ss.toArray] w0 (.bool true) := by
  obtain ⟨ov, kv, nv, rfl, hso, hsk, hsn, hrm⟩ := id h
  obtain ⟨a, cap, rfl, hcap, hmx, hel⟩ := id hso
  obtain ⟨sv, rfl, hsz, hst⟩ := id hs
  obtain ⟨ax, cps, rfl, hscap, hsmx, hels⟩ := id hst
  refine enter Try.func7 rfl Try.ntmps7 rfl ?_
  have hS := St.start w0
  refine seq ?_
  refine region ?_
  refine sbox hS rfl rfl ?_; clear hS; intro b2 w hS
  refine sbox hS rfl rfl ?_; clear hS; intro b3 w hS
  refine sv (yAsg rfl) ?_
  refine nil ?_
  show Code.wp _ _ _ _ _
  refine seq ?_
  refine region ?_
  refine sv (yLdBA rfl Try.isAgg26 Try.sizeOf26 (hS.at _) rfl rfl) ?_
  refine sv (yLdBA rfl Try.isAgg29 Try.sizeOf29 (hS.at _) rfl rfl) ?_
  refine scall Try.call23 (.cons rfl (.cons rfl .nil)) (c_CheckScript (h.ext hS.ext) (hs.ext hS.ext)) ?_
  rintro _ w ⟨rfl, hE⟩; replace hS := hS.step hE; clear hE
  refine sv (yMove rfl) ?_
  refine sv (yExt rfl rfl) ?_
  refine sv (yExt rfl rfl) ?_
  refine sv (yAsg rfl) ?_
  refine sv (yAsg rfl) ?_
  refine nil ?_
  show Code.wp _ _ _ _ _
  refine seq ?_
  refine region ?_
  refine sv (yLdBA rfl Try.isAgg26 Try.sizeOf26 (hS.at _) rfl rfl) ?_
  refine sv (yLdBA rfl Try.isAgg29 Try.sizeOf29 (hS.at _) rfl rfl) ?_
  refine scall Try.call24 (.cons rfl (.cons rfl .nil)) (c_rCheckScript (h.ext hS.ext) (hs.ext hS.ext)) ?_
  rintro _ w ⟨rfl, hE⟩; replace hS := hS.step hE; clear hE
  refine sv (yMove rfl) ?_
  refine sv (yExt rfl rfl) ?_
  refine sv (yExt rfl rfl) ?_
  refine sv (yAsg rfl) ?_
  refine sv (yAsg rfl) ?_
  refine nil ?_
  show Code.wp _ _ _ _ _
  refine seq ?_
  refine seq ?_
  refine region ?_
  refine sv (yMove rfl) ?_
  refine sv (yMove rfl) ?_
  refine sv (yNeq rfl rfl) ?_
  refine sv (yMove rfl) ?_
  refine sg rfl rfl rfl (fun g => (yMove rfl)) (fun v27 g27 => ?_)
  refine sg rfl rfl rfl (fun g => (yMove rfl)) (fun v28 g28 => ?_)
  refine sg rfl rfl rfl (fun g => (yNeq (g27.1 g) (g28.1 g))) (fun v29 g29 => ?_)
  refine sv (yOr rfl rfl (fun hB => (g29.1 hB))) ?_
  refine nil ?_
  show Code.wp _ _ _ _ _
  refine cond rfl (fun c30 => ?_) (fun c30 => ?_)
  ·
    skip
    exfalso
    simp at c30
  ·
    skip
    refine skip ?_
    show Code.wp _ _ _ _ _
    refine seq ?_
    refine region ?_
    refine sv (yLdBA rfl Try.isAgg26 Try.sizeOf26 (hS.at _) rfl rfl) ?_
    refine sv (yLdBA rfl Try.isAgg29 Try.sizeOf29 (hS.at _) rfl rfl) ?_
    refine scall Try.call25 (.cons rfl (.cons rfl .nil)) (c_Windows (h.ext hS.ext) (hs.ext hS.ext)) ?_
    rintro _ w ⟨wv, rfl, hM⟩; replace hS := hS.call1 hM; clear hM
    refine sv (yMove rfl) ?_
    refine sv (yExt rfl rfl) ?_
    refine sv (yExt rfl rfl) ?_
    refine sv (yAsg rfl) ?_
    refine sv (yAsg rfl) ?_
    refine nil ?_
    show Code.wp _ _ _ _ _
    refine seq ?_
    refine region ?_
    refine sv (yLdBA rfl Try.isAgg26 Try.sizeOf26 (hS.at _) rfl rfl) ?_
    refine sv (yLdBA rfl Try.isAgg29 Try.sizeOf29 (hS.at _) rfl rfl) ?_
    refine scall Try.call26 (.cons rfl (.cons rfl .nil)) (c_rWindows (h.ext hS.ext) (hs.ext hS.ext)) ?_
    rintro _ w ⟨wx, rfl, hM⟩; replace hS := hS.call1 hM; clear hM
    refine sv (yMove rfl) ?_
    refine sv (yExt rfl rfl) ?_
    refine sv (yExt rfl rfl) ?_
    refine sv (yAsg rfl) ?_
    refine sv (yAsg rfl) ?_
    refine nil ?_
    show Code.wp _ _ _ _ _
    refine seq ?_
    refine region ?_
    refine sv (yMove rfl) ?_
    refine sv (yMove rfl) ?_
    refine scall Try.call27 (.cons rfl (.cons rfl .nil)) (c_Spans (sl_prs (hS.row wv) rfl) (sl_prs (hS.row wx) rfl)) ?_
    rintro _ w ⟨rfl, hE⟩; replace hS := hS.step hE; clear hE
    refine sv (yMove rfl) ?_
    refine sg rfl rfl rfl (fun g => (yMove rfl)) (fun v47 g47 => ?_)
    refine sg rfl rfl rfl (fun g => (yMove rfl)) (fun v48 g48 => ?_)
    refine sg rfl rfl rfl (fun g => (yEql (g47.1 g) (g48.1 g))) (fun v49 g49 => ?_)
    refine sv (yAnd rfl (fun hB => (g49.1 hB)) rfl) ?_
    refine sv (yMove rfl) ?_
    refine sgc hS rfl rfl rfl Try.call18 (fun g => .nil) (fun g => c_Awake) ?_; clear hS; intro v52 w hS g52
    refine sv (yAnd rfl (fun hB => (g52.1 hB)) rfl) ?_
    refine sv (yAsg rfl) ?_
    refine nil ?_
    show Code.wp _ _ _ _ _
    refine wp_ret ?_
    exact retV (res1 rfl (eqB (by simp))) hS.ext
end Go.Proofs.Ytghgnofilbnbaaa
/- part C25 -/
namespace Bx
open Go Go.RowKit
theorem bools_sl {w : World} {b : Nat} {t : TypeId} {l : List Bool} (h : w.heap[b]? = some (.cells (l.map Value.bool).toArray t (0, 0))) (hn : l.length ≤ 9223372036854775807) : Sl w 1 RBool (.slice (some ⟨b, 0, none⟩) l.length l.length) l := by
  refine ⟨_, _, rfl, Nat.le_refl _, hn, fun i hi => ⟨b, 0, [.bool l[i]], rfl, rfl, fun j v hv => ?_, rfl⟩⟩
  have hj : j = 0 := by
    have := (List.getElem?_eq_some_iff.1 hv).1
    simp at this; exact this
  subst hj
  obtain rfl : Value.bool l[i] = v := by simpa using hv
  rw [show 0 + i * 1 + 0 = i by omega]
  exact cell_of h (by rw [List.getElem?_map, List.getElem?_eq_getElem hi]; rfl)
theorem blk_ok {w : World} {b : Nat} {cs : List Value} {t : TypeId} (h : (blk b cs t).ok w) : w.heap[b]? = some (.cells cs.toArray t (0, 0)) := by
  obtain ⟨o, h1, rfl⟩ := h
  exact h1
theorem splice_one {vs : List Value} {i : Nat} {v : Value} (h : i < vs.length) : splice vs (i * 1) [v] = vs.set i v := by
  unfold splice
  rw [Nat.mul_one, List.set_eq_take_append_cons_drop, if_pos h]
  simp
theorem splice_bool {l : List Bool} {i : Nat} {v : Bool} (h : i < l.length) : splice (l.map Value.bool) (i * 1) [.bool v] = (l.set i v).map Value.bool := by
  rw [splice_one (by simpa using h), List.map_set]
theorem rep_flatB (n : Nat) : (List.replicate n [Value.bool false]).flatten = (List.replicate n false).map Value.bool := by
  induction n with
  | zero => rfl
  | succ n ih => rw [List.replicate_succ, List.replicate_succ, List.flatten_cons, List.map_cons, ih]; rfl
theorem rep_flatS (n : Nat) : (List.replicate n [Value.slice none 0 0]).flatten = List.replicate n (Value.slice none 0 0) := by
  induction n with
  | zero => rfl
  | succ n ih => rw [List.replicate_succ, List.replicate_succ, List.flatten_cons, ih]; rfl
/-! ### the earliest -/
def tbP (bl : List Bool) (v : Int) : Bool := bl.getD v.toNat false
def earI (bl : List Bool) (x : Stp) (b : Int) : Int := firstIn (tbP bl) (b + x.least) (b + x.most)
def earF (bl : List Bool) (x : Stp) (b : Int) : Int × Bool := if 0 ≤ earI bl x b then (earI bl x b, true) else (0, false)
theorem earF_hit {bl : List Bool} {x : Stp} {b : Int} {j : Nat} (h0 : 0 ≤ b + x.least) (hj : b + x.least + j ≤ b + x.most) (hp : tbP bl (b + x.least + j) = true) (hn : ∀ i : Nat, i < j → tbP bl (b + x.least + i) = false) : earF bl x b = (b + x.least + j, true) := by
  have e : earI bl x b = b + x.least + j := firstIn_hit hj hp hn
  unfold earF
  rw [e, if_pos (by omega)]
theorem earF_none {bl : List Bool} {x : Stp} {b : Int} (hn : ∀ i : Nat, b + x.least + i ≤ b + x.most → tbP bl (b + x.least + i) = false) : earF bl x b = (0, false) := by
  have e : earI bl x b = -1 := firstIn_none hn
  unfold earF
  rw [e, if_neg (by decide)]
theorem firstIn_ext {p q : Int → Bool} {lo hi : Int} (h : ∀ v, lo ≤ v → v ≤ hi → p v = q v) : firstIn p lo hi = firstIn q lo hi := by
  have e : (List.range (hi - lo + 1).toNat).find? (fun (j : Nat) => p (lo + (j : Int))) = (List.range (hi - lo + 1).toNat).find? (fun (j : Nat) => q (lo + (j : Int))) := by
    have key : ∀ l : List Nat, (∀ j ∈ l, lo + (j : Int) ≤ hi) → l.find? (fun (j : Nat) => p (lo + (j : Int))) = l.find? (fun (j : Nat) => q (lo + (j : Int))) := by
      intro l
      induction l with
      | nil => intro _; rfl
      | cons a l ih =>
        intro hl
        rw [List.find?_cons, List.find?_cons, h (lo + a) (by omega) (hl a (List.mem_cons_self ..)), ih (fun j hj => hl j (List.mem_cons_of_mem _ hj))]
    exact key _ (fun j hj => by have := List.mem_range.1 hj; omega)
  unfold firstIn
  rw [e]
/-! ### tables -/
def winA (s : Scr) (i : Nat) : Int × Int := (winL s.steps).getD i (0, 0)
def tab (c : Crew) (s : Scr) (start : Int) (i : Nat) : List Bool := (List.range ((winA s i).2.toNat + 1)).map fun (m : Nat) => decide ((winA s i).1 ≤ (m : Int)) && canS c s i (start + m)
theorem tab_len (c : Crew) (s : Scr) (start : Int) (i : Nat) : (tab c s start i).length = (winA s i).2.toNat + 1 := by unfold tab; simp
theorem tab_get {c : Crew} {s : Scr} {start : Int} {i : Nat} {v : Int} (h0 : 0 ≤ v) (h1 : (winA s i).1 ≤ v) (h2 : v ≤ (winA s i).2) : tbP (tab c s start i) v = canS c s i (v + start) := by
  obtain ⟨m, rfl⟩ := Int.eq_ofNat_of_zero_le h0
  unfold tbP tab
  rw [Int.toNat_natCast, List.getD_eq_getElem?_getD, List.getElem?_map, List.getElem?_range (by omega), Option.map_some, Option.getD_some, decide_eq_true h1, Bool.true_and, Int.add_comm]
theorem winA_get {s : Scr} {i : Nat} {w : Int × Int} (h : (winL s.steps)[i]? = some w) : winA s i = w := by
  unfold winA
  rw [List.getD_eq_getElem?_getD, h]; rfl
theorem winA_bd {c : Crew} {s : Scr} (hok : ScrOk c s) {i : Nat} (hi : i < s.steps.length) : (0 ≤ (winA s i).1 ∧ (winA s i).1 ≤ 2400) ∧ 0 ≤ (winA s i).2 ∧ (winA s i).2 ≤ 2400 := by
  have hw := List.getElem?_eq_getElem (show i < (winL s.steps).length by rw [winL_len]; exact hi)
  rw [winA_get hw]
  have := winL_bd hok.steps s.steps.length (Nat.le_refl _) _ (by rw [List.take_length]; exact List.mem_of_getElem? hw)
  have := hok.len
  omega
theorem winA_after {c : Crew} {s : Scr} (hok : ScrOk c s) {k i : Nat} {x : Stp} (hx : s.steps[k]? = some x) (ha : x.after = i) : winA s k = (x.least + (winA s i).1, x.most + (winA s i).2) := by
  have hk := (List.getElem?_eq_some_iff.1 hx).1
  have hak := (hok.steps k x hx).after
  have hwi := List.getElem?_eq_getElem (show i < (winL s.steps).length by rw [winL_len]; omega)
  rw [winA_get (winL_get hx), winA_get hwi]
  exact winS_yes ha (by rw [List.getElem?_take, if_pos (by omega)]; exact hwi)
theorem winA_first {s : Scr} {k : Nat} {x : Stp} (hx : s.steps[k]? = some x) (ha : x.after < 0) : winA s k = (x.least, x.most) := by
  rw [winA_get (winL_get hx)]
  exact winS_no (by omega)
/-- What the table of a step tells. -/
theorem ear_first {c : Crew} {s : Scr} {start b : Int} {k : Nat} {x : Stp} (hx : s.steps[k]? = some x) (h0 : 0 ≤ b + x.least) (h1 : (winA s k).1 ≤ b + x.least) (h2 : b + x.most ≤ (winA s k).2) (hs : 0 ≤ start) :
    ((earF (tab c s start k) x b).2 = true ↔ 0 ≤ firstP c s k (b + start)) ∧ (0 ≤ firstP c s k (b + start) → (earF (tab c s start k) x b).1 + start = firstP c s k (b + start)) := by
  have hxa := stpAt_hit hx
  have e : earI (tab c s start k) x b = firstIn (fun v => canS c s k (v + start)) (b + x.least) (b + x.most) := firstIn_ext (fun v h3 h4 => tab_get (by omega) (by omega) (by omega))
  have hsh := firstIn_sh (p := fun v => canS c s k (v + start)) (q := canS c s k) (n := start) (lo := b + x.least) (hi := b + x.most) (fun v => rfl) h0 hs
  have e2 : firstP c s k (b + start) = firstIn (canS c s k) (b + x.least + start) (b + x.most + start) := by
    unfold firstP
    rw [hxa, show b + start + x.least = b + x.least + start by omega, show b + start + x.most = b + x.most + start by omega]
  rw [e2]
  unfold earF
  rw [e]
  refine ⟨?_, fun h => ?_⟩
  · rw [hsh.1]
    split
    · rename_i h; simp [h]
    · rename_i h; simp; omega
  · rw [hsh.2 (hsh.1.1 h), if_pos (hsh.1.1 h)]
theorem base_yes {c : Crew} {s : Scr} {i : Nat} {m : Int} {x : Stp} (hx : s.steps[i]? = some x) (h : inB m 0 100000 = true) : (ableR c x.kind m).2.2 = baseP c s i m := by
  unfold baseP
  rw [stpAt_hit hx, show neverB m = false by rw [neverB, outB_false]; exact inB_iff.1 h, Bool.not_false, Bool.true_and]
  unfold ableR ableB
  cases pairsL c (kndAt c x.kind) m <;> rfl
theorem base_no {c : Crew} {s : Scr} {i : Nat} {m : Int} (h : inB m 0 100000 = false) : inB m 0 100000 = baseP c s i m := by
  rw [h]
  unfold baseP
  rw [show neverB m = true by unfold neverB; rw [← inB_not, h]; rfl]; rfl
theorem acc_first {c : Crew} {s : Scr} (hs : ∀ (j : Nat) y, s.steps[j]? = some y → StpOk c j y) {i : Nat} (hi : i < s.steps.length) (m : Int) : ∀ k, k ≤ i + 1 → accK c s i m k = baseP c s i m
  | 0, _ => accK_zero c s i m
  | k + 1, hk => by
    have hx := List.getElem?_eq_getElem (show k < s.steps.length by omega)
    have ha := (hs k _ hx).after
    rw [accK_succ (stpAt_hit hx), acc_first hs hi m k (by omega), decide_eq_true (show (s.steps[k]).after ≠ (i : Int) by omega)]
    simp
theorem acc_mono {c : Crew} {s : Scr} {i : Nat} {m : Int} {k n : Nat} (h : accK c s i m k = false) (hn : k ≤ n) : accK c s i m n = false := by
  unfold accK at h ⊢
  rw [Bool.and_eq_false_iff] at h ⊢
  rcases h with h | h
  · exact .inl h
  · right
    rw [List.all_eq_false] at h ⊢
    obtain ⟨x, hx, hp⟩ := h
    exact ⟨x, List.mem_range.2 (by have := List.mem_range.1 hx; omega), hp⟩
theorem acc_done {c : Crew} {s : Scr} (hs : ∀ (j : Nat) y, s.steps[j]? = some y → StpOk c j y) {i : Nat} (hi : i < s.steps.length) {m : Int} {k : Nat} (hk : k ≤ s.steps.length) (h : s.steps.length ≤ k ∨ accK c s i m k = false) : accK c s i m k = canS c s i m := by
  rw [← accK_full hs hi]
  by_cases hkn : k = s.steps.length
  · rw [hkn]
  · have h2 : accK c s i m k = false := by
      rcases h with h | h
      · omega
      · exact h
    rw [h2, acc_mono h2 hk]
theorem acc_ear {c : Crew} {s : Scr} {start : Int} {i k m : Nat} {x : Stp} (hok : ScrOk c s) (hx : s.steps[k]? = some x) (ha : x.after = i) (hs : 0 ≤ start) (hm : (winA s i).1 ≤ m ∧ (m : Int) ≤ (winA s i).2) (hacc : accK c s i (start + m) k = true) : (earF (tab c s start k) x m).2 = accK c s i (start + m) (k + 1) := by
  have hw := winA_after hok hx ha
  have hl := (hok.steps k x hx).least
  have hmo := (hok.steps k x hx).most
  rw [accK_succ (stpAt_hit hx), hacc, Bool.true_and, decide_eq_false (by omega), Bool.false_or]
  have := (ear_first (c := c) (start := start) (b := (m : Int)) hx (by omega) (by rw [hw]; dsimp only; omega) (by rw [hw]; dsimp only; omega) hs).1
  rw [Int.add_comm] at this
  rw [Bool.eq_iff_iff, decide_eq_true_eq]
  exact this
theorem acc_skip {c : Crew} {s : Scr} {i k : Nat} {m : Int} {x : Stp} (hx : s.steps[k]? = some x) (ha : ¬ x.after = i) : accK c s i m k = accK c s i m (k + 1) := by
  rw [accK_succ (stpAt_hit hx), decide_eq_true ha, Bool.true_or, Bool.and_true]
theorem tab_eq {c : Crew} {s : Scr} {start : Int} {i n m : Nat} {bl : List Bool} (hn : n = (winA s i).2.toNat + 1) (hl : bl.length = n) (hm : n ≤ m) (h : ∀ j, j < n → bl[j]? = some (if j < m then (decide ((winA s i).1 ≤ (j : Int)) && canS c s i (start + j)) else false)) : bl = tab c s start i := by
  refine eq_of_get (by rw [tab_len, hl, hn]) (fun j hj => ?_)
  rw [h j (by omega), if_pos (by omega)]
  unfold tab
  rw [List.getElem?_map, List.getElem?_range (by omega)]
  rfl
/-- The tables of the steps from one on. -/
def TabK (c : Crew) (s : Scr) (start : Int) (vs : List Value) (M : List Item) (i : Nat) : Prop := ∀ k, i ≤ k → k < s.steps.length → ∃ q, vs[k]? = some (.slice (some ⟨q, 0, none⟩) (tab c s start k).length (tab c s start k).length) ∧ blk q ((tab c s start k).map Value.bool) 4 ∈ M
theorem TabK.set {c : Crew} {s : Scr} {start : Int} {vs : List Value} {M : List Item} {i q : Nat} {v : Value} (h : TabK c s start vs M (i + 1)) (hl : i < vs.length) (hv : v = .slice (some ⟨q, 0, none⟩) (tab c s start i).length (tab c s start i).length) : TabK c s start (vs.set i v) (M ++ [blk q ((tab c s start i).map Value.bool) 4]) i := by
  intro k hk hkl
  by_cases e : k = i
  · subst e
    exact ⟨q, by rw [List.getElem?_set_self hl, hv], List.mem_append_right _ (List.mem_singleton.2 rfl)⟩
  · obtain ⟨q', h1, h2⟩ := h k (by omega) hkl
    exact ⟨q', by rw [List.getElem?_set_ne (Ne.symm e)]; exact h1, List.mem_append_left _ h2⟩
end Bx
namespace Bx
open Go Go.RowKit
theorem winA_le {c : Crew} {s : Scr} (hok : ScrOk c s) : ∀ {i : Nat}, i < s.steps.length → (winA s i).1 ≤ (winA s i).2 := by
  intro i
  induction i using Nat.strongRecOn with
  | _ i ih =>
    intro hi
    have hx := List.getElem?_eq_getElem hi
    have hsx := hok.steps i _ hx
    have h1 := hsx.after
    have h2 := hsx.least
    by_cases hneg : (s.steps[i]).after < 0
    · rw [winA_first hx hneg]; dsimp only; omega
    · obtain ⟨a, ha⟩ := Int.eq_ofNat_of_zero_le (show 0 ≤ (s.steps[i]).after by omega)
      rw [winA_after hok hx ha]
      have := ih a (by omega) (by omega)
      dsimp only; omega
theorem TabK.keep {c : Crew} {s : Scr} {start : Int} {vs : List Value} {M : List Item} {i : Nat} {v : Value} (h : TabK c s start vs M (i + 1)) : TabK c s start (vs.set i v) M (i + 1) := by
  intro k hk hkl
  obtain ⟨q, h1, h2⟩ := h k hk hkl
  exact ⟨q, by rw [List.getElem?_set_ne (by omega)]; exact h1, h2⟩
end Bx
namespace Bx
open Go Go.RowKit
def planE1 (c : Crew) (s : Scr) (start : Int) : Int := if (scriptF c s).2 ≠ 0 then (scriptF c s).2 else if neverB start = true then 7 else 0
theorem planE1_yes {c : Crew} {s : Scr} {start : Int} (h : (decide ((scriptF c s).2 = 0) && !inB start 0 100000) = true) : planE1 c s start = 7 := by
  rw [Bool.and_eq_true, decide_eq_true_eq, inB_not] at h
  unfold planE1
  rw [if_neg (not_not_intro h.1), if_pos h.2]
theorem planE1_no {c : Crew} {s : Scr} {start : Int} (h : (decide ((scriptF c s).2 = 0) && !inB start 0 100000) = false) : planE1 c s start = (scriptF c s).2 := by
  rw [inB_not, Bool.and_eq_false_iff, decide_eq_false_iff_not] at h
  unfold planE1
  by_cases h0 : (scriptF c s).2 = 0
  · rw [if_neg (not_not_intro h0), if_neg (by rw [show neverB start = false from h.resolve_left (not_not_intro h0)]; decide), h0]
  · rw [if_pos h0]
theorem planE1_bad {c : Crew} {s : Scr} {start : Int} (h : planE1 c s start ≠ 0) : planE c s start = planE1 c s start ∧ planL c s start = [] := by
  unfold planE1 at h ⊢
  by_cases h0 : (scriptF c s).2 = 0
  · rw [if_neg (not_not_intro h0)] at h ⊢
    by_cases hn : neverB start = true
    · rw [if_pos hn]
      exact planE_never h0 hn
    · rw [if_neg hn] at h; exact absurd rfl h
  · rw [if_pos h0]
    exact planE_bad h0
theorem planE1_ok {c : Crew} {s : Scr} {start : Int} (h : planE1 c s start = 0) : (scriptF c s).2 = 0 ∧ neverB start = false := by
  unfold planE1 at h
  split at h
  · rename_i h1; exact absurd h h1
  split at h
  · cases h
  · rename_i h1 h2
    exact ⟨Classical.not_not.1 h1, by simpa using h2⟩
theorem winA_bef {c : Crew} {s : Scr} {start : Int} {l : List Int} {k : Nat} {x : Stp} (hs : (scriptF c s).2 = 0) (hg : GoodP c s start l) (hl : l.length = k) (hx : s.steps[k]? = some x) :
    (0 ≤ befP start l x - start ∧ befP start l x - start ≤ 2400) ∧ (winA s k).1 ≤ befP start l x - start + x.least ∧ befP start l x - start + x.most ≤ (winA s k).2 := by
  have hok := scrOk_of hs
  have hsx := hok.steps k x hx
  have h1 := hsx.after
  have h2 := hsx.least
  by_cases hneg : x.after < 0
  · rw [befP_neg hneg, winA_first hx hneg]; dsimp only; omega
  · obtain ⟨a, ha⟩ := Int.eq_ofNat_of_zero_le (show 0 ≤ x.after by omega)
    have hk := (List.getElem?_eq_some_iff.1 hx).1
    have hv := List.getElem?_eq_getElem (show a < l.length by omega)
    have hw := List.getElem?_eq_getElem (show a < (winL s.steps).length by rw [winL_len]; omega)
    have := good_win hs hg a _ _ hv hw
    rw [← winA_get hw] at this
    have hb := winA_bd hok (show a < s.steps.length by omega)
    rw [befP_at ha hv, winA_after hok hx ha]
    dsimp only
    omega
end Bx
/- part Ck40 -/
namespace Go.Proofs.Ytghgnofilbnbaaa
open Go Bx
set_option maxHeartbeats 1000000 in
/-- barrage/barrageref10.earliest -/
theorem c_rear {x : Stp} {bl : List Bool} {v : Value} {b0 : Int} {w0 : World} (hl : Sl w0 1 RBool v bl) (h0 : 0 ≤ b0 + x.least ∧ b0 + x.least ≤ 100000) (h1 : b0 + x.most < bl.length) (h2 : bl.length ≤ 100000) (hlm : x.least ≤ x.most) : CV Try.prog 48 #[.agg (stpC x).toArray, v, .int .i64 b0] w0 (.tuple #[.int .i64 (earF bl x b0).1, .bool (earF bl x b0).2]) := by
  obtain ⟨al, cl, rfl, hlcap, hlmx, hel⟩ := id hl
  refine enter Try.func48 rfl Try.ntmps48 rfl ?_
  have hS := St.start w0
  refine seq ?_
  refine region ?_
  refine sbox hS rfl rfl ?_; clear hS; intro b3 w hS
  refine sv (yAsg rfl) ?_
  refine sv (yAsg rfl) ?_
  refine nil ?_
  show Code.wp _ _ _ _ _
  refine seq ?_
  refine seq ?_
  refine region ?_
  refine sv (yMove rfl) ?_
  refine sv (fa89_3 rfl) ?_
  refine sv (yLdB rfl Try.isAgg3 (hS.at _) rfl) ?_
  refine sv (yAdd rfl rfl ⟨by omega, by omega⟩) ?_
  refine sv (yAsg rfl) ?_
  refine nil ?_
  show Code.wp _ _ _ _ _
  refine block ?_
  refine loop (fun f w zz => ∃ (j : Nat), f 1 = .slice al bl.length cl ∧ f 2 = .int .i64 b0 ∧ f 3 = .pointer (some ⟨b3, 0, none⟩) ∧ f 8 = .int .i64 (b0 + x.least + (j : Int)) ∧ StX [] w0 w [blk b3 (stpC x) 89] ∧ (∀ i : Nat, i < j → tbP bl (b0 + x.least + (i : Int)) = false) ∧ ((j : Int) ≤ 100000) ∧ zz = (b0 + x.most + 1 - (b0 + x.least + (j : Int))).toNat) _ ⟨_, rfl, 0, rfl, rfl, rfl, rfl.trans (congrArg (Value.int .i64) (Int.add_zero _).symm), hS, (fun i hi => absurd hi (Nat.not_lt_zero i)), (by omega), rfl⟩ ?_
  clear hS
  rintro f w _ ⟨j, h1, h2, h3, h8, hS, hN, hj, rfl⟩
  refine seq ?_
  refine seq ?_
  refine region ?_
  refine sv (yMove h8) ?_
  refine sv (yMove h2) ?_
  refine sv (fa89_4 h3) ?_
  refine sv (yLdB rfl Try.isAgg3 (hS.at _) rfl) ?_
  refine sv (yAdd rfl rfl ⟨by omega, by omega⟩) ?_
  refine sv (yLeq rfl rfl) ?_
  refine nil ?_
  show Code.wp _ _ _ _ _
  refine cond rfl (fun c18 => ?_) (fun c18 => ?_)
  ·
    simp only [Bool.and_eq_true, Bool.or_eq_true, Bool.and_eq_false_iff, Bool.or_eq_false_iff, decide_eq_true_eq, decide_eq_false_iff_not, Bool.not_eq_true, Bool.not_eq_false, Bool.not_not, Bool.not_eq_eq_eq_not, Bool.not_true, Bool.not_false, Bool.false_eq_true, Bool.true_eq_false, ne_eq, Decidable.not_not, not_false_eq_true, not_true_eq_false] at c18
    refine skip ?_
    show Code.wp _ _ _ _ _
    refine seq ?_
    refine block ?_
    refine seq ?_
    refine region ?_
    obtain ⟨q, hqe⟩ := Int.eq_ofNat_of_zero_le (show 0 ≤ b0 + x.least + (j : Int) by omega)
    obtain ⟨y, hxz, hdz⟩ := drop_of (l := bl) (k := q) (by omega)
    obtain ⟨bz, oz, csz, haz, hlenz, hcsz, hRz⟩ := hel (q) (by omega)
    obtain rfl : y = bl[q] := (List.getElem?_eq_some_iff.1 hxz).2.symm
    generalize bl[q] = y at hxz hdz hRz
    have hR := hRz
    obtain rfl : csz = [.bool y] := hR
    have hq : tbP bl (b0 + x.least + (j : Int)) = y := by unfold tbP; rw [hqe, Int.toNat_natCast, List.getD_eq_getElem?_getD, hxz]; rfl
    refine sv (yMove h1) ?_
    refine sv (yMove h8) ?_
    refine sv (yIxa rfl haz (rfl.trans (congrArg (Value.int .i64) hqe)) Try.runUnderlying111 Try.sizeOf4 (by omega) (by omega)) ?_
    refine sv (yLd rfl Try.isAgg4 ((hcsz.ext hS.ext).one)) ?_
    refine nil ?_
    show Code.wp _ _ _ _ _
    refine cond rfl (fun c24 => ?_) (fun c24 => ?_)
    ·
      refine seq ?_
      refine region ?_
      refine sv (yMove h8) ?_
      refine sv (yAsg rfl) ?_
      refine sv (yAsg rfl) ?_
      refine nil ?_
      show Code.wp _ _ _ _ _
      have hfin := earF_hit (bl := bl) (x := x) (b := b0) h0.1 (by omega) (hq.trans c24) hN
      refine wp_ret (blockR (thenR (thenR (blockR (thenR ?_)))))
      exact retV (res2 rfl (eqI (by rw [hfin])) (eqB (by rw [hfin]))) hS.ext
    ·
      refine skip ?_
      show Code.wp _ _ _ _ _
      refine region ?_
      refine sv (yMove h8) ?_
      refine sv (yAdd rfl rfl ⟨by omega, by omega⟩) ?_
      refine sv (yAsg rfl) ?_
      refine nil ?_
      exact ⟨_, _, rfl, ⟨j + 1, h1, h2, h3, rfl.trans (congrArg (Value.int .i64) (by omega)), hS, (snoc hN (hq.trans c24)), (by omega), rfl⟩, by omega⟩
  ·
    simp only [Bool.and_eq_true, Bool.or_eq_true, Bool.and_eq_false_iff, Bool.or_eq_false_iff, decide_eq_true_eq, decide_eq_false_iff_not, Bool.not_eq_true, Bool.not_eq_false, Bool.not_not, Bool.not_eq_eq_eq_not, Bool.not_true, Bool.not_false, Bool.false_eq_true, Bool.true_eq_false, ne_eq, Decidable.not_not, not_false_eq_true, not_true_eq_false] at c18
    refine exit ?_
    show Code.wp _ _ _ _ _
    refine seq ?_
    refine region ?_
    refine sv (yAsg rfl) ?_
    refine sv (yAsg rfl) ?_
    refine nil ?_
    show Code.wp _ _ _ _ _
    have hfin := earF_none (bl := bl) (x := x) (b := b0) (fun i hi => hN i (by omega))
    refine wp_ret ?_
    exact retV (res2 rfl (eqI (by rw [hfin])) (eqB (by rw [hfin]))) hS.ext
set_option maxHeartbeats 8000000 in
/-- barrage/barrageref10.can -/
theorem c_rcan {c : Crew} {cs ss : List Value} {s : Scr} {w0 : World} (h : RCrew w0 cs c) (hs : RScr w0 ss s) {start : Int} {wv : Value} (hw : Sl w0 2 RPr wv (winL s.steps)) (hs0 : (scriptF c s).2 = 0) (hm : 0 ≤ start ∧ start ≤ 100000) : CE Try.prog 47 #[.agg cs.toArray, .agg ss.toArray, wv, .int .i64 start] w0 (fun u w' => ∃ q vs M, u = .slice (some ⟨q, 0, none⟩) s.steps.length s.steps.length ∧ vs.length = s.steps.length ∧ TabK c s start vs M 0 ∧ St w0 w' [packI M, blk q vs 111]) := by
  obtain ⟨ov, kv, nv, rfl, hso, hsk, hsn, hrm⟩ := id h
  obtain ⟨a, cap, rfl, hcap, hmx, hel⟩ := id hso
  obtain ⟨ak, ck, rfl, hckap, hkmx, helk⟩ := id hsk
  obtain ⟨an, cn, rfl, hncap, hnmx, heln⟩ := id hsn
  obtain ⟨sv, rfl, hsz, hst⟩ := id hs
  obtain ⟨ax, cps, rfl, hscap, hsmx, hels⟩ := id hst
  obtain ⟨aw, cw, rfl, hwcap, hwmx, helw⟩ := id hw
  have hok := scrOk_of hs0
  have hlen := hok.len
  have hwl := winL_len s.steps
  refine enter Try.func47 rfl Try.ntmps47 rfl ?_
  have hS := St.start w0
  refine seq ?_
  refine region ?_
  refine sbox hS rfl rfl ?_; clear hS; intro b4 w hS
  refine sbox hS rfl rfl ?_; clear hS; intro b5 w hS
  refine sv (yAsg rfl) ?_
  refine nil ?_
  show Code.wp _ _ _ _ _
  refine seq ?_
  refine region ?_
  refine sv (fa29_1 rfl) ?_
  refine sv (yLdB rfl Try.isAgg27 (hS.at _) rfl) ?_
  refine sv (yLen rfl Try.underlying27) ?_
  refine smake (bytes := 24) (zs := [.slice none 0 0]) (m := s.steps.length) hS rfl rfl Try.underlying107 ti111 rfl rfl rfl rfl rfl (by omega) (by omega) ?_; clear hS; intro b17 w hS
  refine sv (yAsg rfl) ?_
  refine nil ?_
  show Code.wp _ _ _ _ _
  refine seq ?_
  refine seq ?_
  refine region ?_
  rw [rep_flatS] at hS
  replace hS : StX [] w0 w (blk b17 (List.replicate s.steps.length (.slice none 0 0)) 111 :: blk b5 [.string s.name, .slice ax s.steps.length cps] 29 :: blk b4 [.slice a c.ops.length cap, .slice ak c.keys.length ck, .slice an c.kinds.length cn] 26 :: []) := hS
  replace hS : StX [] w0 w (packI [] :: blk b17 (List.replicate s.steps.length (.slice none 0 0)) 111 :: blk b5 [.string s.name, .slice ax s.steps.length cps] 29 :: blk b4 [.slice a c.ops.length cap, .slice ak c.keys.length ck, .slice an c.kinds.length cn] 26 :: []) := StX.pack (M := []) hS
  refine sv (fa29_1 rfl) ?_
  refine sv (yLdB rfl Try.isAgg27 (hS.at _) rfl) ?_
  refine sv (yLen rfl Try.underlying27) ?_
  refine sv (ySub rfl rfl ⟨by omega, by omega⟩) ?_
  refine sv (yAsg rfl) ?_
  refine nil ?_
  show Code.wp _ _ _ _ _
  refine block ?_
  refine loop (fun f w zz => ∃ (i : Nat) (vs : List Value) (M : List Bx.Item), f 2 = .slice aw (winL s.steps).length cw ∧ f 3 = .int .i64 start ∧ f 4 = .pointer (some ⟨b4, 0, none⟩) ∧ f 5 = .pointer (some ⟨b5, 0, none⟩) ∧ f 9 = .slice (some ⟨b17, 0, none⟩) s.steps.length s.steps.length ∧ f 10 = .int .i64 ((i : Int) - 1) ∧ StX [] w0 w [packI M, blk b17 vs 111, blk b5 [.string s.name, .slice ax s.steps.length cps] 29, blk b4 [.slice a c.ops.length cap, .slice ak c.keys.length ck, .slice an c.kinds.length cn] 26] ∧ (i ≤ s.steps.length) ∧ (vs.length = s.steps.length) ∧ (TabK c s start vs M i) ∧ zz = i + 1) _ ⟨_, rfl, s.steps.length, _, [], rfl, rfl, rfl, rfl, rfl, rfl, hS, (Nat.le_refl _), (List.length_replicate), (fun k h1 h2 => absurd h2 (by omega)), rfl⟩ ?_
  clear hS
  rintro f w _ ⟨i, vs, M, h2, h3, h4, h5, h9, h10, hS, hi, hvl, hT, rfl⟩
  refine seq ?_
  refine seq ?_
  refine region ?_
  refine sv (yMove h10) ?_
  refine sv (yGeq rfl rfl) ?_
  refine nil ?_
  show Code.wp _ _ _ _ _
  refine cond rfl (fun c23 => ?_) (fun c23 => ?_)
  ·
    simp only [Bool.and_eq_true, Bool.or_eq_true, Bool.and_eq_false_iff, Bool.or_eq_false_iff, decide_eq_true_eq, decide_eq_false_iff_not, Bool.not_eq_true, Bool.not_eq_false, Bool.not_not, Bool.not_eq_eq_eq_not, Bool.not_true, Bool.not_false, Bool.false_eq_true, Bool.true_eq_false, ne_eq, Decidable.not_not, not_false_eq_true, not_true_eq_false] at c23
    obtain ⟨i, rfl⟩ : ∃ i0, i = i0 + 1 := ⟨i - 1, by omega⟩
    rw [show (((i + 1 : Nat) : Int) - 1) = (i : Int) by omega] at h10
    obtain ⟨x, hxq, hdq⟩ := drop_of (l := s.steps) (k := i) (by omega)
    obtain ⟨bq, oq, csq, haq, hlenq, hcsq, hRq⟩ := hels (i) (by omega)
    obtain rfl : x = s.steps[i] := (List.getElem?_eq_some_iff.1 hxq).2.symm
    generalize s.steps[i] = x at hxq hdq hRq
    obtain ⟨rfl, hxi⟩ := hRq
    have hsx := hok.steps i x hxq
    have hbw := winA_bd hok (show i < s.steps.length by omega)
    obtain ⟨wi, hxw2, hdw2⟩ := drop_of (l := (winL s.steps)) (k := i) (by omega)
    obtain ⟨bw2, ow2, csw2, haw2, hlenw2, hcsw2, hRw2⟩ := helw (i) (by omega)
    obtain rfl : wi = (winL s.steps)[i] := (List.getElem?_eq_some_iff.1 hxw2).2.symm
    generalize (winL s.steps)[i] = wi at hxw2 hdw2 hRw2
    obtain ⟨rfl, _⟩ := hRw2
    obtain rfl : winA s i = wi := winA_get hxw2
    obtain ⟨hi2, hhi⟩ := Int.eq_ofNat_of_zero_le hbw.2.1
    obtain ⟨lo, hlo⟩ := Int.eq_ofNat_of_zero_le hbw.1.1
    have hle : (winA s i).1 ≤ (winA s i).2 := winA_le hok (show i < s.steps.length by omega)
    refine skip ?_
    show Code.wp _ _ _ _ _
    refine seq ?_
    refine block ?_
    refine seq ?_
    refine region ?_
    refine sv (yMove h9) ?_
    refine sv (yMove h10) ?_
    refine sv (yMove h2) ?_
    refine sv (yMove h10) ?_
    refine sv (yIxa rfl haw2 rfl Try.runUnderlying62 Try.sizeOf86 (by omega) (by omega)) ?_
    refine sv (fa86_1 rfl) ?_
    refine sv (yLd rfl Try.isAgg3 ((hcsw2.ext hS.ext).at (j := 1) rfl)) ?_
    refine sv (yAdd rfl rfl ⟨by omega, by omega⟩) ?_
    refine smake (bytes := 1) (zs := [.bool false]) (m := (winA s i).2.toNat + 1) hS (rfl.trans (congrArg (Value.int .i64) (by omega))) (rfl.trans (congrArg (Value.int .i64) (by omega))) Try.underlying111 ti4 rfl rfl rfl rfl rfl (by omega) (by omega) ?_; clear hS; intro b34 w hS; rw [rep_flatB] at hS
    refine sv (yIx0 rfl rfl Try.runUnderlying107 Try.sizeOf111 (by omega)) ?_
    refine sst (vs := [.slice (some ⟨b34, 0, none⟩) ((winA s i).2.toNat + 1) ((winA s i).2.toNat + 1)]) hS rfl rfl Try.sizeOf111 rfl rfl (by rw [Nat.ble_eq]; omega) rfl ?_; clear hS; intro w hS; rw [splice_one (by omega)] at hS
    have hvi : (vs.set i (.slice (some ⟨b34, 0, none⟩) ((winA s i).2.toNat + 1) ((winA s i).2.toNat + 1)))[i]? = some (.slice (some ⟨b34, 0, none⟩) ((winA s i).2.toNat + 1) ((winA s i).2.toNat + 1)) := List.getElem?_set_self (by omega)
    generalize hvs2 : vs.set i (.slice (some ⟨b34, 0, none⟩) ((winA s i).2.toNat + 1) ((winA s i).2.toNat + 1)) = vs2 at hS hvi
    have hvl2 : vs2.length = s.steps.length := by rw [← hvs2, List.length_set]; exact hvl
    have hT2 : TabK c s start vs2 M (i + 1) := by rw [← hvs2]; exact hT.keep
    refine nil ?_
    show Code.wp _ _ _ _ _
    refine seq ?_
    refine region ?_
    refine sv (yMove h2) ?_
    refine sv (yMove h10) ?_
    refine sv (yIxa rfl haw2 rfl Try.runUnderlying62 Try.sizeOf86 (by omega) (by omega)) ?_
    refine sv (fa86_0 rfl) ?_
    refine sv (yLd rfl Try.isAgg3 ((hcsw2.ext hS.ext).at (j := 0) rfl)) ?_
    refine sv (yAsg rfl) ?_
    refine nil ?_
    show Code.wp _ _ _ _ _
    refine block ?_
    refine loop (fun f w zz => ∃ (mm : Nat) (bl : List Bool), f 2 = .slice aw (winL s.steps).length cw ∧ f 3 = .int .i64 start ∧ f 4 = .pointer (some ⟨b4, 0, none⟩) ∧ f 5 = .pointer (some ⟨b5, 0, none⟩) ∧ f 9 = .slice (some ⟨b17, 0, none⟩) s.steps.length s.steps.length ∧ f 10 = .int .i64 (i : Int) ∧ f 11 = .int .i64 (mm : Int) ∧ StX [] w0 w [blk b34 (bl.map Value.bool) 4, packI M, blk b17 vs2 111, blk b5 [.string s.name, .slice ax s.steps.length cps] 29, blk b4 [.slice a c.ops.length cap, .slice ak c.keys.length ck, .slice an c.kinds.length cn] 26] ∧ ((winA s i).1 ≤ (mm : Int) ∧ mm ≤ (winA s i).2.toNat + 1) ∧ (bl.length = (winA s i).2.toNat + 1) ∧ (∀ j, j < (winA s i).2.toNat + 1 → bl[j]? = some (if j < mm then (decide ((winA s i).1 ≤ (j : Int)) && canS c s i (start + j)) else false)) ∧ zz = (winA s i).2.toNat + 1 - mm) _ ⟨_, rfl, lo, _, h2, h3, h4, h5, h9, h10, rfl.trans (congrArg (Value.int .i64) hlo), hS, (⟨by omega, by omega⟩), (List.length_replicate), (fun j hj => by rw [List.getElem?_replicate, if_pos hj]; split; rw [decide_eq_false (by omega)]; rfl; rfl), rfl⟩ ?_
    clear hS
    rintro f w _ ⟨mm, bl, h2, h3, h4, h5, h9, h10, h11, hS, hmm, hbl, hbv, rfl⟩
    refine seq ?_
    refine seq ?_
    refine region ?_
    refine sv (yMove h11) ?_
    refine sv (yMove h2) ?_
    refine sv (yMove h10) ?_
    refine sv (yIxa rfl haw2 rfl Try.runUnderlying62 Try.sizeOf86 (by omega) (by omega)) ?_
    refine sv (fa86_1 rfl) ?_
    refine sv (yLd rfl Try.isAgg3 ((hcsw2.ext hS.ext).at (j := 1) rfl)) ?_
    refine sv (yLeq rfl rfl) ?_
    refine nil ?_
    show Code.wp _ _ _ _ _
    refine cond rfl (fun c47 => ?_) (fun c47 => ?_)
    ·
      simp only [Bool.and_eq_true, Bool.or_eq_true, Bool.and_eq_false_iff, Bool.or_eq_false_iff, decide_eq_true_eq, decide_eq_false_iff_not, Bool.not_eq_true, Bool.not_eq_false, Bool.not_not, Bool.not_eq_eq_eq_not, Bool.not_true, Bool.not_false, Bool.false_eq_true, Bool.true_eq_false, ne_eq, Decidable.not_not, not_false_eq_true, not_true_eq_false] at c47
      refine skip ?_
      show Code.wp _ _ _ _ _
      refine seq ?_
      refine block ?_
      refine seq ?_
      refine region ?_
      refine sv (yMove h3) ?_
      refine sv (yMove h11) ?_
      refine sv (yAdd rfl rfl ⟨by omega, by omega⟩) ?_
      refine scall Try.call46 (.cons rfl .nil) c_rminute ?_
      rintro _ w ⟨rfl, hE⟩; replace hS := hS.step hE; clear hE
      refine sv (yAsg rfl) ?_
      refine nil ?_
      show Code.wp _ _ _ _ _
      refine seqJ (n := 112) (fun f w => f 2 = .slice aw (winL s.steps).length cw ∧ f 3 = .int .i64 start ∧ f 4 = .pointer (some ⟨b4, 0, none⟩) ∧ f 5 = .pointer (some ⟨b5, 0, none⟩) ∧ f 9 = .slice (some ⟨b17, 0, none⟩) s.steps.length s.steps.length ∧ f 10 = .int .i64 (i : Int) ∧ f 11 = .int .i64 (mm : Int) ∧ f 12 = .bool (baseP c s i (start + (mm : Int))) ∧ StX [] w0 w [blk b34 (bl.map Value.bool) 4, packI M, blk b17 vs2 111, blk b5 [.string s.name, .slice ax s.steps.length cps] 29, blk b4 [.slice a c.ops.length cap, .slice ak c.keys.length ck, .slice an c.kinds.length cn] 26] ∧ True) ?_ ?_
      ·
        refine seq ?_
        refine region ?_
        refine sv (yMove rfl) ?_
        refine nil ?_
        show Code.wp _ _ _ _ _
        refine cond rfl (fun c54 => ?_) (fun c54 => ?_)
        ·
          refine region_draw mixed (by kernel_rfl) hS ?_
          refine qv (fun w hS => (yLdBA h4 Try.isAgg26 Try.sizeOf26 (hS.at _) rfl rfl)) ?_
          refine qv (fun w hS => (fa29_1 h5)) ?_
          refine qv (fun w hS => (yLdB rfl Try.isAgg27 (hS.at _) rfl)) ?_
          refine qv (fun w hS => (yMove h10)) ?_
          refine qv (fun w hS => (yIxa rfl haq rfl Try.runUnderlying27 Try.sizeOf89 (by omega) (by omega))) ?_
          refine qv (fun w hS => (fa89_0 rfl)) ?_
          refine qv (fun w hS => (yLd rfl Try.isAgg3 ((hcsq.ext hS.ext).at (j := 0) rfl))) ?_
          refine qv (fun w hS => (yMove h3)) ?_
          refine qv (fun w hS => (yMove h11)) ?_
          refine qv (fun w hS => (yAdd rfl rfl ⟨by omega, by omega⟩)) ?_
          refine qcall Try.call72 (.cons rfl (.cons rfl (.cons rfl .nil))) (fun w hS => (c_rable (h.ext hS.ext) hsx.kind)) ?_
          refine qv (fun w hS => (yMove rfl)) ?_
          refine qv (fun w hS => (yExt rfl rfl)) ?_
          refine qv (fun w hS => (yExt rfl rfl)) ?_
          refine qv (fun w hS => (yExt rfl rfl)) ?_
          refine qv (fun w hS => (yAsg rfl)) ?_
          clear hS; refine qnil (fun w hS => ?_)
          exact ⟨_, rfl, h2, h3, h4, h5, h9, h10, h11, rfl.trans (congrArg Value.bool (base_yes hxq c54)), hS, trivial⟩
        ·
          refine skip ?_
          exact ⟨_, rfl, h2, h3, h4, h5, h9, h10, h11, rfl.trans (congrArg Value.bool (base_no c54)), hS, trivial⟩
      ·
        clear hS; rintro f w ⟨h2, h3, h4, h5, h9, h10, h11, h12, hS, -⟩
        refine seq ?_
        refine seq ?_
        refine region ?_
        refine sv (yMove h10) ?_
        refine sv (yAdd rfl rfl ⟨by omega, by omega⟩) ?_
        refine sv (yAsg rfl) ?_
        refine nil ?_
        show Code.wp _ _ _ _ _
        refine block ?_
        refine loop (fun f w zz => ∃ (k : Nat), f 2 = .slice aw (winL s.steps).length cw ∧ f 3 = .int .i64 start ∧ f 4 = .pointer (some ⟨b4, 0, none⟩) ∧ f 5 = .pointer (some ⟨b5, 0, none⟩) ∧ f 9 = .slice (some ⟨b17, 0, none⟩) s.steps.length s.steps.length ∧ f 10 = .int .i64 (i : Int) ∧ f 11 = .int .i64 (mm : Int) ∧ f 12 = .bool (accK c s i (start + (mm : Int)) k) ∧ f 13 = .int .i64 (k : Int) ∧ StX [] w0 w [blk b34 (bl.map Value.bool) 4, packI M, blk b17 vs2 111, blk b5 [.string s.name, .slice ax s.steps.length cps] 29, blk b4 [.slice a c.ops.length cap, .slice ak c.keys.length ck, .slice an c.kinds.length cn] 26] ∧ (i + 1 ≤ k ∧ k ≤ s.steps.length) ∧ zz = s.steps.length - k) _ ⟨_, rfl, i + 1, h2, h3, h4, h5, h9, h10, h11, h12.trans (congrArg Value.bool (acc_first hok.steps (by omega) _ (i + 1) (Nat.le_refl _)).symm), rfl, hS, (⟨Nat.le_refl _, by omega⟩), rfl⟩ ?_
        clear hS
        rintro f w _ ⟨k, h2, h3, h4, h5, h9, h10, h11, h12, h13, hS, hk, rfl⟩
        refine seq ?_
        refine seq ?_
        refine region ?_
        refine sv (yMove h13) ?_
        refine sv (fa29_1 h5) ?_
        refine sv (yLdB rfl Try.isAgg27 (hS.at _) rfl) ?_
        refine sv (yLen rfl Try.underlying27) ?_
        refine sv (yLss rfl rfl) ?_
        refine sv (yMove rfl) ?_
        refine sg rfl rfl rfl (fun g => (yMove h12)) (fun v78 g78 => ?_)
        refine sv (yAnd rfl (fun hB => (g78.1 hB)) rfl) ?_
        refine nil ?_
        show Code.wp _ _ _ _ _
        refine cond rfl (fun c79 => ?_) (fun c79 => ?_)
        ·
          simp only [Bool.and_eq_true, Bool.or_eq_true, Bool.and_eq_false_iff, Bool.or_eq_false_iff, decide_eq_true_eq, decide_eq_false_iff_not, Bool.not_eq_true, Bool.not_eq_false, Bool.not_not, Bool.not_eq_eq_eq_not, Bool.not_true, Bool.not_false, Bool.false_eq_true, Bool.true_eq_false, ne_eq, Decidable.not_not, not_false_eq_true, not_true_eq_false] at c79
          refine skip ?_
          show Code.wp _ _ _ _ _
          refine seq ?_
          refine block ?_
          refine seq ?_
          refine region ?_
          obtain ⟨y, hxk, hdk⟩ := drop_of (l := s.steps) (k := k) (by omega)
          obtain ⟨bk, ok, csk, hak, hlenk, hcsk, hRk⟩ := hels (k) (by omega)
          obtain rfl : y = s.steps[k] := (List.getElem?_eq_some_iff.1 hxk).2.symm
          generalize s.steps[k] = y at hxk hdk hRk
          obtain ⟨rfl, hyi⟩ := hRk
          have hsy := hok.steps k y hxk
          have hy1 := hsy.least
          have hy2 := hsy.most
          obtain ⟨qk, hvk, hMk⟩ := hT2 k hk.1 (by omega)
          refine sv (fa29_1 h5) ?_
          refine sv (yLdB rfl Try.isAgg27 (hS.at _) rfl) ?_
          refine sv (yMove h13) ?_
          refine sv (yIxa rfl hak rfl Try.runUnderlying27 Try.sizeOf89 (by omega) (by omega)) ?_
          refine sv (fa89_2 rfl) ?_
          refine sv (yLd rfl Try.isAgg3 ((hcsk.ext hS.ext).at (j := 2) rfl)) ?_
          refine sv (yMove h10) ?_
          refine sv (yEql rfl rfl) ?_
          refine nil ?_
          show Code.wp _ _ _ _ _
          refine cond rfl (fun c89 => ?_) (fun c89 => ?_)
          ·
            simp only [Bool.and_eq_true, Bool.or_eq_true, Bool.and_eq_false_iff, Bool.or_eq_false_iff, decide_eq_true_eq, decide_eq_false_iff_not, Bool.not_eq_true, Bool.not_eq_false, Bool.not_not, Bool.not_eq_eq_eq_not, Bool.not_true, Bool.not_false, Bool.false_eq_true, Bool.true_eq_false, ne_eq, Decidable.not_not, not_false_eq_true, not_true_eq_false] at c89
            refine region_draw mixed (by kernel_rfl) hS ?_
            have hwk := winA_after hok hxk c89
            have hlk := tab_len c s start k
            rw [hwk] at hlk
            have hbk := winA_bd hok (show k < s.steps.length by omega)
            rw [hwk] at hbk
            simp only [] at hlk hbk
            refine qv (fun w hS => (fa29_1 h5)) ?_
            refine qv (fun w hS => (yLdB rfl Try.isAgg27 (hS.at _) rfl)) ?_
            refine qv (fun w hS => (yMove h13)) ?_
            refine qv (fun w hS => (yIxa rfl hak rfl Try.runUnderlying27 Try.sizeOf89 (by omega) (by omega))) ?_
            refine qv (fun w hS => (yLdA rfl Try.isAgg89 Try.sizeOf89 (hcsk.ext hS.ext) rfl)) ?_
            refine qv (fun w hS => (yMove h9)) ?_
            refine qv (fun w hS => (yMove h13)) ?_
            refine qv (fun w hS => (yIx0 rfl rfl Try.runUnderlying107 Try.sizeOf111 (by omega))) ?_
            refine qv (fun w hS => (yLdB rfl Try.isAgg111 (hS.at _) (by rw [Nat.mul_one]; exact hvk))) ?_
            refine qv (fun w hS => (yMove h11)) ?_
            refine qcall Try.call48 (.cons rfl (.cons rfl (.cons rfl .nil))) (fun w hS => (c_rear (bools_sl (blk_ok (hS.inpack (by simp) hMk)) (by omega)) ⟨by omega, by omega⟩ (by omega) (by omega) hy1.2)) ?_
            refine qv (fun w hS => (yMove rfl)) ?_
            refine qv (fun w hS => (yExt rfl rfl)) ?_
            refine qv (fun w hS => (yExt rfl rfl)) ?_
            refine qv (fun w hS => (yAsg rfl)) ?_
            clear hS; refine qnil (fun w hS => ?_)
            show Code.wp _ _ _ _ _
            refine region ?_
            refine sv (yMove h13) ?_
            refine sv (yAdd rfl rfl ⟨by omega, by omega⟩) ?_
            refine sv (yAsg rfl) ?_
            refine nil ?_
            exact ⟨_, _, rfl, ⟨k + 1, h2, h3, h4, h5, h9, h10, h11, rfl.trans (congrArg Value.bool (acc_ear hok hxk c89 hm.1 ⟨hmm.1, by omega⟩ c79.2)), rfl, hS, (⟨by omega, by omega⟩), rfl⟩, by omega⟩
          ·
            simp only [Bool.and_eq_true, Bool.or_eq_true, Bool.and_eq_false_iff, Bool.or_eq_false_iff, decide_eq_true_eq, decide_eq_false_iff_not, Bool.not_eq_true, Bool.not_eq_false, Bool.not_not, Bool.not_eq_eq_eq_not, Bool.not_true, Bool.not_false, Bool.false_eq_true, Bool.true_eq_false, ne_eq, Decidable.not_not, not_false_eq_true, not_true_eq_false] at c89
            refine skip ?_
            show Code.wp _ _ _ _ _
            refine region ?_
            refine sv (yMove h13) ?_
            refine sv (yAdd rfl rfl ⟨by omega, by omega⟩) ?_
            refine sv (yAsg rfl) ?_
            refine nil ?_
            exact ⟨_, _, rfl, ⟨k + 1, h2, h3, h4, h5, h9, h10, h11, h12.trans (congrArg Value.bool (acc_skip hxk c89)), rfl, hS, (⟨by omega, by omega⟩), rfl⟩, by omega⟩
        ·
          simp only [Bool.and_eq_true, Bool.or_eq_true, Bool.and_eq_false_iff, Bool.or_eq_false_iff, decide_eq_true_eq, decide_eq_false_iff_not, Bool.not_eq_true, Bool.not_eq_false, Bool.not_not, Bool.not_eq_eq_eq_not, Bool.not_true, Bool.not_false, Bool.false_eq_true, Bool.true_eq_false, ne_eq, Decidable.not_not, not_false_eq_true, not_true_eq_false] at c79
          have hacc := acc_done hok.steps (show i < s.steps.length by omega) (m := start + (mm : Int)) hk.2 (by rcases c79 with h9 | h9; exact .inl (by omega); exact .inr h9)
          refine exit ?_
          show Code.wp _ _ _ _ _
          refine region ?_
          refine sv (yMove h9) ?_
          refine sv (yMove h10) ?_
          refine sv (yIx0 rfl rfl Try.runUnderlying107 Try.sizeOf111 (by omega)) ?_
          refine sv (yLdB rfl Try.isAgg111 (hS.at _) (by rw [Nat.mul_one]; exact hvi)) ?_
          refine sv (yMove h11) ?_
          refine sv (yMove h12) ?_
          refine sv (yIx0 rfl rfl Try.runUnderlying111 Try.sizeOf4 (by omega)) ?_
          refine sst (vs := [.bool (canS c s i (start + (mm : Int)))]) hS rfl (rfl.trans (congrArg Value.bool hacc)) Try.sizeOf4 rfl rfl (by rw [Nat.ble_eq, List.length_map]; omega) rfl ?_; clear hS; intro w hS
          refine nil ?_
          show Code.wp _ _ _ _ _
          refine region ?_
          refine sv (yMove h11) ?_
          refine sv (yAdd rfl rfl ⟨by omega, by omega⟩) ?_
          refine sv (yAsg rfl) ?_
          refine nil ?_
          exact ⟨_, _, rfl, ⟨mm + 1, bl.set mm (canS c s i (start + (mm : Int))), h2, h3, h4, h5, h9, h10, rfl, (by rw [← splice_bool (by omega)]; exact hS), (⟨by omega, by omega⟩), (by simpa using hbl), (set_get (A := fun (j : Nat) => decide ((winA s i).1 ≤ (j : Int)) && canS c s i (start + j)) (B := fun _ => false) hbl (by omega) (by rw [decide_eq_true hmm.1, Bool.true_and]) hbv), rfl⟩, by omega⟩
    ·
      simp only [Bool.and_eq_true, Bool.or_eq_true, Bool.and_eq_false_iff, Bool.or_eq_false_iff, decide_eq_true_eq, decide_eq_false_iff_not, Bool.not_eq_true, Bool.not_eq_false, Bool.not_not, Bool.not_eq_eq_eq_not, Bool.not_true, Bool.not_false, Bool.false_eq_true, Bool.true_eq_false, ne_eq, Decidable.not_not, not_false_eq_true, not_true_eq_false] at c47
      obtain rfl : bl = tab c s start i := tab_eq rfl hbl (by omega) hbv
      refine exit ?_
      show Code.wp _ _ _ _ _
      refine region ?_
      refine sv (yMove h10) ?_
      refine sv (ySub rfl rfl ⟨by omega, by omega⟩) ?_
      refine sv (yAsg rfl) ?_
      refine nil ?_
      exact ⟨_, _, rfl, ⟨i, vs.set i (.slice (some ⟨b34, 0, none⟩) ((winA s i).2.toNat + 1) ((winA s i).2.toNat + 1)), _, h2, h3, h4, h5, h9, rfl.trans (congrArg (Value.int .i64) (by omega)), (by rw [hvs2]; exact hS.packs), (by omega), (by simpa using hvl), (hT.set (by omega) (by rw [tab_len])), rfl⟩, by omega⟩
  ·
    simp only [Bool.and_eq_true, Bool.or_eq_true, Bool.and_eq_false_iff, Bool.or_eq_false_iff, decide_eq_true_eq, decide_eq_false_iff_not, Bool.not_eq_true, Bool.not_eq_false, Bool.not_not, Bool.not_eq_eq_eq_not, Bool.not_true, Bool.not_false, Bool.false_eq_true, Bool.true_eq_false, ne_eq, Decidable.not_not, not_false_eq_true, not_true_eq_false] at c23
    obtain rfl : i = 0 := by omega
    refine exit ?_
    show Code.wp _ _ _ _ _
    refine seq ?_
    refine region ?_
    refine sv (yMove h9) ?_
    refine sv (yAsg rfl) ?_
    refine nil ?_
    show Code.wp _ _ _ _ _
    refine wp_ret ?_
    refine retQ (res1 rfl rfl) ?_
    exact ⟨b17, vs, M, rfl, hvl, hT, hS.sub (.cons_cons _ (.cons_cons _ (List.nil_sublist _)))⟩
end Go.Proofs.Ytghgnofilbnbaaa
/- part Ck41 -/
namespace Go.Proofs.Ytghgnofilbnbaaa
open Go Bx
set_option maxHeartbeats 8000000 in
/-- barrage/barrageref10.Plan -/
theorem c_rPlan {c : Crew} {cs ss : List Value} {s : Scr} {w0 : World} (h : RCrew w0 cs c) (hs : RScr w0 ss s) {start : Int} (hsi : I64 start) : CE Try.prog 16 #[.agg cs.toArray, .agg ss.toArray, .int .i64 start] w0 (fun u w' => ∃ lv, u = .tuple #[lv, .int .i64 (planE c s start)] ∧ St w0 w' [rowI lv 3 1 (planL c s start).length ((planL c s start).flatMap Bx.encI)]) := by
  obtain ⟨ov, kv, nv, rfl, hso, hsk, hsn, hrm⟩ := id h
  obtain ⟨a, cap, rfl, hcap, hmx, hel⟩ := id hso
  obtain ⟨sv, rfl, hsz, hst⟩ := id hs
  obtain ⟨ax, cps, rfl, hscap, hsmx, hels⟩ := id hst
  refine enter Try.func16 rfl Try.ntmps16 rfl ?_
  have hS := St.start w0
  refine seq ?_
  refine region ?_
  refine sbox hS rfl rfl ?_; clear hS; intro b3 w hS
  refine sbox hS rfl rfl ?_; clear hS; intro b4 w hS
  refine sv (yAsg rfl) ?_
  refine sv (yAsg rfl) ?_
  refine nil ?_
  show Code.wp _ _ _ _ _
  refine seq ?_
  refine region ?_
  refine sv (yLdBA rfl Try.isAgg26 Try.sizeOf26 (hS.at _) rfl rfl) ?_
  refine sv (yLdBA rfl Try.isAgg29 Try.sizeOf29 (hS.at _) rfl rfl) ?_
  refine scall Try.call26 (.cons rfl (.cons rfl .nil)) (c_rWindows (h.ext hS.ext) (hs.ext hS.ext)) ?_
  rintro _ w ⟨wv, rfl, hM⟩; replace hS := hS.call1 hM; clear hM
  obtain ⟨aw, cw, rfl⟩ := row_shape (hS.row wv)
  refine sv (yMove rfl) ?_
  refine sv (yExt rfl rfl) ?_
  refine sv (yExt rfl rfl) ?_
  refine sv (yAsg rfl) ?_
  refine sv (yAsg rfl) ?_
  refine nil ?_
  show Code.wp _ _ _ _ _
  refine seqJ (n := 85) (fun f w => f 2 = .int .i64 start ∧ f 3 = .pointer (some ⟨b3, 0, none⟩) ∧ f 4 = .pointer (some ⟨b4, 0, none⟩) ∧ f 8 = .slice aw (winF c s).length cw ∧ f 9 = .int .i64 (planE1 c s start) ∧ StX [] w0 w [rowI (.slice aw (winF c s).length cw) 86 2 (winF c s).length ((winF c s).flatMap pC), blk b4 [.string s.name, .slice ax s.steps.length cps] 29, blk b3 [.slice a c.ops.length cap, kv, nv] 26] ∧ True) ?_ ?_
  ·
    refine seq ?_
    refine region ?_
    refine sv (yMove rfl) ?_
    refine sv (yEql rfl rfl) ?_
    refine sv (yMove rfl) ?_
    refine sg rfl rfl rfl (fun g => (yMove rfl)) (fun v25 g25 => ?_)
    refine sgc hS rfl rfl rfl Try.call46 (fun g => (.cons (g25.1 g) .nil)) (fun g => c_rminute) ?_; clear hS; intro v26 w hS g26
    refine sg rfl rfl rfl (fun g => (yNot (g26.1 g))) (fun v27 g27 => ?_)
    refine sv (yAnd rfl (fun hB => (g27.1 hB)) rfl) ?_
    refine nil ?_
    show Code.wp _ _ _ _ _
    refine cond rfl (fun c28 => ?_) (fun c28 => ?_)
    ·
      refine region ?_
      refine sv (yAsg rfl) ?_
      refine nil ?_
      exact ⟨_, rfl, rfl, rfl, rfl, rfl, rfl.trans (congrArg (Value.int .i64) (planE1_yes c28).symm), hS, trivial⟩
    ·
      refine skip ?_
      exact ⟨_, rfl, rfl, rfl, rfl, rfl, rfl.trans (congrArg (Value.int .i64) (planE1_no c28).symm), hS, trivial⟩
  ·
    clear hS; rintro f w ⟨h2, h3, h4, h8, h9, hS, -⟩
    refine seq ?_
    refine seq ?_
    refine region ?_
    refine sv (yMove h9) ?_
    refine sv (yNeq rfl rfl) ?_
    refine nil ?_
    show Code.wp _ _ _ _ _
    refine cond rfl (fun c30 => ?_) (fun c30 => ?_)
    ·
      simp only [Bool.and_eq_true, Bool.or_eq_true, Bool.and_eq_false_iff, Bool.or_eq_false_iff, decide_eq_true_eq, decide_eq_false_iff_not, Bool.not_eq_true, Bool.not_eq_false, Bool.not_not, Bool.not_eq_eq_eq_not, Bool.not_true, Bool.not_false, Bool.false_eq_true, Bool.true_eq_false, ne_eq, Decidable.not_not, not_false_eq_true, not_true_eq_false] at c30
      refine seq ?_
      refine region ?_
      refine sv (yMove h9) ?_
      refine sv (yAsg rfl) ?_
      refine sv (yAsg rfl) ?_
      refine nil ?_
      show Code.wp _ _ _ _ _
      refine wp_ret (thenR ?_)
      refine retQ (res2 rfl rfl rfl) ?_
      exact ⟨_, by (rw [(planE1_bad c30).1]; try rfl), by rw [(planE1_bad c30).2]; exact (hS.nilrow 3 1).sub (.cons_cons _ (List.nil_sublist _))⟩
    ·
      simp only [Bool.and_eq_true, Bool.or_eq_true, Bool.and_eq_false_iff, Bool.or_eq_false_iff, decide_eq_true_eq, decide_eq_false_iff_not, Bool.not_eq_true, Bool.not_eq_false, Bool.not_not, Bool.not_eq_eq_eq_not, Bool.not_true, Bool.not_false, Bool.false_eq_true, Bool.true_eq_false, ne_eq, Decidable.not_not, not_false_eq_true, not_true_eq_false] at c30
      obtain ⟨hs0, hnv⟩ := planE1_ok c30
      have hok := scrOk_of hs0
      have hlen := hok.len
      have hnv2 := hnv
      rw [neverB, outB_false] at hnv2
      refine skip ?_
      show Code.wp _ _ _ _ _
      refine seq ?_
      refine region ?_
      refine sv (yLdBA h3 Try.isAgg26 Try.sizeOf26 (hS.at _) rfl rfl) ?_
      refine sv (yLdBA h4 Try.isAgg29 Try.sizeOf29 (hS.at _) rfl rfl) ?_
      refine sv (yMove h8) ?_
      refine sv (yMove h2) ?_
      refine scall Try.call47 (.cons rfl (.cons rfl (.cons rfl (.cons rfl .nil)))) (c_rcan (h.ext hS.ext) (hs.ext hS.ext) (by have h9 := sl_prs (hS.row (.slice aw (winF c s).length cw)) rfl; rw [winF_ok hs0] at h9 ⊢; exact h9) hs0 hnv2) ?_
      rintro _ w ⟨q0, vs, M, rfl, hvl, hT, hM⟩; replace hS := hS.call2 hM; clear hM
      refine sv (yAsg rfl) ?_
      refine nil ?_
      show Code.wp _ _ _ _ _
      refine seq ?_
      refine region ?_
      refine sv (yAsg rfl) ?_
      refine nil ?_
      show Code.wp _ _ _ _ _
      refine seq ?_
      refine seq ?_
      refine region ?_
      refine sv (yAsg rfl) ?_
      refine nil ?_
      show Code.wp _ _ _ _ _
      refine block ?_
      replace hS := (hS.sub (.cons_cons _ (.cons_cons _ (.cons _ (.cons_cons _ (List.nil_sublist _)))))).nilrow 3 1
      refine loop (fun f w zz => ∃ (k : Nat) (l : List Int) (lv : Value), f 2 = .int .i64 start ∧ f 4 = .pointer (some ⟨b4, 0, none⟩) ∧ f 10 = .slice (some ⟨q0, 0, none⟩) s.steps.length s.steps.length ∧ f 12 = .int .i64 (k : Int) ∧ f 11 = lv ∧ StX [] w0 w [rowI lv 3 1 l.length (l.flatMap Bx.encI), packI M, blk q0 vs 111, blk b4 [.string s.name, .slice ax s.steps.length cps] 29] ∧ (k ≤ s.steps.length) ∧ (l.length = k) ∧ (∀ y ∈ l, 0 ≤ y ∧ y ≤ 100000) ∧ (GoodP c s start l) ∧ (planR c s start s.steps 0 [] = planR c s start (s.steps.drop k) k l) ∧ zz = s.steps.length - k) _ ⟨_, rfl, 0, [], _, h2, h4, rfl, rfl, rfl, hS, (Nat.zero_le _), (rfl), (fun y hy => (List.not_mem_nil hy).elim), (good_nil c s start), (rfl), rfl⟩ ?_
      clear hS
      rintro f w _ ⟨k, l, lv, h2, h4, h10, h12, h11, hS, hk, hl, hbd, hg, hP, rfl⟩
      refine seq ?_
      refine seq ?_
      refine region ?_
      refine sv (yMove h12) ?_
      refine sv (fa29_1 h4) ?_
      refine sv (yLdB rfl Try.isAgg27 (hS.at _) rfl) ?_
      refine sv (yLen rfl Try.underlying27) ?_
      refine sv (yLss rfl rfl) ?_
      refine nil ?_
      show Code.wp _ _ _ _ _
      refine cond rfl (fun c41 => ?_) (fun c41 => ?_)
      ·
        simp only [Bool.and_eq_true, Bool.or_eq_true, Bool.and_eq_false_iff, Bool.or_eq_false_iff, decide_eq_true_eq, decide_eq_false_iff_not, Bool.not_eq_true, Bool.not_eq_false, Bool.not_not, Bool.not_eq_eq_eq_not, Bool.not_true, Bool.not_false, Bool.false_eq_true, Bool.true_eq_false, ne_eq, Decidable.not_not, not_false_eq_true, not_true_eq_false] at c41
        refine skip ?_
        show Code.wp _ _ _ _ _
        refine seq ?_
        refine block ?_
        refine seq ?_
        refine region ?_
        obtain ⟨y, hxv, hdv⟩ := drop_of (l := s.steps) (k := k) (by omega)
        obtain ⟨bv, ov, csv, hav, hlenv, hcsv, hRv⟩ := hels (k) (by omega)
        obtain rfl : y = s.steps[k] := (List.getElem?_eq_some_iff.1 hxv).2.symm
        generalize s.steps[k] = y at hxv hdv hRv
        obtain ⟨rfl, hyi⟩ := hRv
        have hsy := hok.steps k y hxv
        have hya := hsy.after
        have hyl := hsy.least
        have hym := hsy.most
        obtain ⟨hwb1, hwb2, hwb3⟩ := winA_bef hs0 hg hl hxv
        have hbb := befP_bd (x := y) hnv2 hbd
        refine sv (yAsg rfl) ?_
        refine nil ?_
        show Code.wp _ _ _ _ _
        refine seqJ (n := 85) (fun f w => ∃ (lv : Value), f 2 = .int .i64 start ∧ f 4 = .pointer (some ⟨b4, 0, none⟩) ∧ f 10 = .slice (some ⟨q0, 0, none⟩) s.steps.length s.steps.length ∧ f 12 = .int .i64 (k : Int) ∧ f 11 = lv ∧ f 13 = .int .i64 (befP start l y - start) ∧ StX [] w0 w [rowI lv 3 1 l.length (l.flatMap Bx.encI), packI M, blk q0 vs 111, blk b4 [.string s.name, .slice ax s.steps.length cps] 29] ∧ True) ?_ ?_
        ·
          refine seq ?_
          refine region ?_
          refine sv (fa29_1 h4) ?_
          refine sv (yLdB rfl Try.isAgg27 (hS.at _) rfl) ?_
          refine sv (yMove h12) ?_
          refine sv (yIxa rfl hav rfl Try.runUnderlying27 Try.sizeOf89 (by omega) (by omega)) ?_
          refine sv (fa89_2 rfl) ?_
          refine sv (yLd rfl Try.isAgg3 ((hcsv.ext hS.ext).at (j := 2) rfl)) ?_
          refine sv (yGeq rfl rfl) ?_
          refine nil ?_
          show Code.wp _ _ _ _ _
          refine cond rfl (fun c50 => ?_) (fun c50 => ?_)
          ·
            simp only [Bool.and_eq_true, Bool.or_eq_true, Bool.and_eq_false_iff, Bool.or_eq_false_iff, decide_eq_true_eq, decide_eq_false_iff_not, Bool.not_eq_true, Bool.not_eq_false, Bool.not_not, Bool.not_eq_eq_eq_not, Bool.not_true, Bool.not_false, Bool.false_eq_true, Bool.true_eq_false, ne_eq, Decidable.not_not, not_false_eq_true, not_true_eq_false] at c50
            refine region ?_
            obtain ⟨g, chl, rfl, -⟩ := row_some (hS.row lv) (by omega)
            obtain ⟨qa, hqa⟩ := Int.eq_ofNat_of_zero_le c50
            obtain ⟨z, hz, -⟩ := drop_of (l := l) (k := qa) (by omega)
            have hzb := hbd z (List.mem_of_getElem? hz)
            refine sv (yMove h11) ?_
            refine sv (fa29_1 h4) ?_
            refine sv (yLdB rfl Try.isAgg27 (hS.at _) rfl) ?_
            refine sv (yMove h12) ?_
            refine sv (yIxa rfl hav rfl Try.runUnderlying27 Try.sizeOf89 (by omega) (by omega)) ?_
            refine sv (fa89_2 rfl) ?_
            refine sv (yLd rfl Try.isAgg3 ((hcsv.ext hS.ext).at (j := 2) rfl)) ?_
            refine sv (yIx0 rfl (rfl.trans (congrArg (Value.int .i64) hqa)) Try.runUnderlying30 Try.sizeOf3 (by omega)) ?_
            refine sv (yLd rfl Try.isAgg3 ((flat_cells0 (enc := Bx.encI) encI_len (row_at (hS.row (.slice (some ⟨g, 0, none⟩) l.length chl)) rfl (by omega)) hz).one)) ?_
            refine sv (yMove h2) ?_
            refine sv (ySub rfl rfl ⟨by omega, by omega⟩) ?_
            refine sv (yAsg rfl) ?_
            refine nil ?_
            exact ⟨_, rfl, _, h2, h4, h10, h12, h11, rfl.trans (congrArg (Value.int .i64) (by rw [befP_at hqa hz])), hS, trivial⟩
          ·
            simp only [Bool.and_eq_true, Bool.or_eq_true, Bool.and_eq_false_iff, Bool.or_eq_false_iff, decide_eq_true_eq, decide_eq_false_iff_not, Bool.not_eq_true, Bool.not_eq_false, Bool.not_not, Bool.not_eq_eq_eq_not, Bool.not_true, Bool.not_false, Bool.false_eq_true, Bool.true_eq_false, ne_eq, Decidable.not_not, not_false_eq_true, not_true_eq_false] at c50
            refine skip ?_
            exact ⟨_, rfl, _, h2, h4, h10, h12, h11, rfl.trans (congrArg (Value.int .i64) (by rw [befP_neg (by omega)]; omega)), hS, trivial⟩
        ·
          clear hS; rintro f w ⟨lv, h2, h4, h10, h12, h11, h13, hS, -⟩
          refine seq ?_
          refine region_draw mixed (by kernel_rfl) hS ?_
          obtain ⟨qk, hvk, hMk⟩ := hT k (Nat.zero_le _) (by omega)
          have hlk := tab_len c s start k
          have hbk := winA_bd hok (show k < s.steps.length by omega)
          refine qv (fun w hS => (fa29_1 h4)) ?_
          refine qv (fun w hS => (yLdB rfl Try.isAgg27 (hS.at _) rfl)) ?_
          refine qv (fun w hS => (yMove h12)) ?_
          refine qv (fun w hS => (yIxa rfl hav rfl Try.runUnderlying27 Try.sizeOf89 (by omega) (by omega))) ?_
          refine qv (fun w hS => (yLdA rfl Try.isAgg89 Try.sizeOf89 (hcsv.ext hS.ext) rfl)) ?_
          refine qv (fun w hS => (yMove h10)) ?_
          refine qv (fun w hS => (yMove h12)) ?_
          refine qv (fun w hS => (yIx0 rfl rfl Try.runUnderlying107 Try.sizeOf111 (by omega))) ?_
          refine qv (fun w hS => (yLdB rfl Try.isAgg111 (hS.at _) (by rw [Nat.mul_one]; exact hvk))) ?_
          refine qv (fun w hS => (yMove h13)) ?_
          refine qcall Try.call48 (.cons rfl (.cons rfl (.cons rfl .nil))) (fun w hS => (c_rear (bools_sl (blk_ok (hS.inpack (by simp) hMk)) (by omega)) ⟨by omega, by omega⟩ (by omega) (by omega) hyl.2)) ?_
          refine qv (fun w hS => (yMove rfl)) ?_
          refine qv (fun w hS => (yExt rfl rfl)) ?_
          refine qv (fun w hS => (yExt rfl rfl)) ?_
          refine qv (fun w hS => (yAsg rfl)) ?_
          refine qv (fun w hS => (yAsg rfl)) ?_
          clear hS; refine qnil (fun w hS => ?_)
          show Code.wp _ _ _ _ _
          refine seq ?_
          refine seq ?_
          refine region ?_
          obtain ⟨hear, hearf⟩ := ear_first (c := c) (start := start) (b := befP start l y - start) hxv (by omega) hwb2 hwb3 hnv2.1
          rw [Int.sub_add_cancel] at hear hearf
          refine sv (yMove rfl) ?_
          refine sv (yNot rfl) ?_
          refine nil ?_
          show Code.wp _ _ _ _ _
          refine cond rfl (fun c77 => ?_) (fun c77 => ?_)
          ·
            have hneg : firstP c s k (befP start l y) < 0 := by
              apply Int.not_le.1
              intro h9
              rw [hear.2 h9] at c77
              cases c77
            refine seq ?_
            refine region ?_
            refine sv (yAsg rfl) ?_
            refine sv (yAsg rfl) ?_
            refine nil ?_
            show Code.wp _ _ _ _ _
            refine wp_ret (thenR (blockR (thenR (thenR (blockR (thenR ?_))))))
            refine retQ (res2 rfl rfl rfl) ?_
            exact ⟨_, by (rw [(planE_none hs0 hnv (by rw [hP, hdv, planR_cons, if_pos hneg])).1]; try rfl), by rw [(planE_none hs0 hnv (by rw [hP, hdv, planR_cons, if_pos hneg])).2]; exact (hS.nilrow 3 1).sub (.cons_cons _ (List.nil_sublist _))⟩
          ·
            have hpos : 0 ≤ firstP c s k (befP start l y) := hear.1 (by simpa using c77)
            have hearv := hearf hpos
            have hfb := firstP_bd hok.steps (show k < s.steps.length by omega) (b := befP start l y) (by omega)
            refine skip ?_
            show Code.wp _ _ _ _ _
            refine region ?_
            refine sv (yMove h11) ?_
            refine sv (yMove h2) ?_
            refine sv (yMove rfl) ?_
            refine sv (yAdd rfl rfl ⟨by omega, by omega⟩) ?_
            refine sbslice hS Try.underlying30 Try.sizeOf3 rfl Try.zeroValue3 rfl (.cons rfl rfl .nil) rfl ?_; clear hS; intro b82 w hS
            refine sapp (bytes := 8) (size := 1) (v := lv) (m := 1) hS rfl rfl Try.underlying30 ti3 rfl rfl rfl rfl (by decide) (blk_cells (hS.at _)) rfl rfl (by omega) (by omega) ?_; clear hS; intro v83 w hS
            refine sv (yAsg rfl) ?_
            refine nil ?_
            show Code.wp _ _ _ _ _
            refine region ?_
            refine sv (yMove h12) ?_
            refine sv (yAdd rfl rfl ⟨by omega, by omega⟩) ?_
            refine sv (yAsg rfl) ?_
            refine nil ?_
            exact ⟨_, _, rfl, ⟨k + 1, l ++ [firstP c s k (befP start l y)], v83, h2, h4, h10, rfl, rfl, (by rw [List.flatMap_append, List.length_append, ← hearv, Int.add_comm (earF _ _ _).1]; exact hS.sub (.cons _ (List.Sublist.refl _))), (by omega), (by simp [hl]), (fun z hz => by rcases List.mem_append.1 hz with hz | hz; exact hbd z hz; rw [List.mem_singleton.1 hz]; exact firstP_bd hok.steps (by omega) (by omega)), (by subst hl; exact good_snoc hok hg hxv hpos), (by rw [hP, hdv, planR_cons, if_neg (by omega)]), rfl⟩, by omega⟩
      ·
        simp only [Bool.and_eq_true, Bool.or_eq_true, Bool.and_eq_false_iff, Bool.or_eq_false_iff, decide_eq_true_eq, decide_eq_false_iff_not, Bool.not_eq_true, Bool.not_eq_false, Bool.not_not, Bool.not_eq_eq_eq_not, Bool.not_true, Bool.not_false, Bool.false_eq_true, Bool.true_eq_false, ne_eq, Decidable.not_not, not_false_eq_true, not_true_eq_false] at c41
        refine exit ?_
        show Code.wp _ _ _ _ _
        refine seq ?_
        refine region ?_
        refine sv (yMove h11) ?_
        refine sv (yAsg rfl) ?_
        refine sv (yAsg rfl) ?_
        refine nil ?_
        show Code.wp _ _ _ _ _
        refine wp_ret ?_
        refine retQ (res2 rfl rfl rfl) ?_
        obtain rfl : k = s.steps.length := by omega
        have hfin := planE_some hs0 hnv (l := l) (by rw [hP, List.drop_length]; rfl)
        exact ⟨lv, by (rw [hfin.1]; try rfl), by rw [hfin.2]; exact hS.sub (.cons_cons _ (List.nil_sublist _))⟩
set_option maxHeartbeats 4000000 in
/-- barrage/barragelaw10.CrewPlans -/
theorem w_CrewPlans {c : Crew} {cs ss : List Value} {s : Scr} {w0 : World} (h : RCrew w0 cs c) (hs : RScr w0 ss s) {start : Int} (hsi : I64 start) : CV Try.prog 3 #[.agg cs.toArray, .agg ss.toArray, .int .i64 start] w0 (.bool true) := by
  obtain ⟨ov, kv, nv, rfl, hso, hsk, hsn, hrm⟩ := id h
  obtain ⟨a, cap, rfl, hcap, hmx, hel⟩ := id hso
  obtain ⟨sv, rfl, hsz, hst⟩ := id hs
  obtain ⟨ax, cps, rfl, hscap, hsmx, hels⟩ := id hst
  refine enter Try.func3 rfl Try.ntmps3 rfl ?_
  have hS := St.start w0
  refine seq ?_
  refine region ?_
  refine sbox hS rfl rfl ?_; clear hS; intro b3 w hS
  refine sbox hS rfl rfl ?_; clear hS; intro b4 w hS
  refine sv (yAsg rfl) ?_
  refine nil ?_
  show Code.wp _ _ _ _ _
  refine seq ?_
  refine region ?_
  refine sv (yLdBA rfl Try.isAgg26 Try.sizeOf26 (hS.at _) rfl rfl) ?_
  refine sv (yLdBA rfl Try.isAgg29 Try.sizeOf29 (hS.at _) rfl rfl) ?_
  refine sv (yMove rfl) ?_
  refine scall Try.call15 (.cons rfl (.cons rfl (.cons rfl .nil))) (c_Plan (h.ext hS.ext) (hs.ext hS.ext)) ?_
  rintro _ w ⟨pv, rfl, hM⟩; replace hS := hS.call1 hM; clear hM
  refine sv (yMove rfl) ?_
  refine sv (yExt rfl rfl) ?_
  refine sv (yExt rfl rfl) ?_
  refine sv (yAsg rfl) ?_
  refine sv (yAsg rfl) ?_
  refine nil ?_
  show Code.wp _ _ _ _ _
  refine seq ?_
  refine region ?_
  refine sv (yLdBA rfl Try.isAgg26 Try.sizeOf26 (hS.at _) rfl rfl) ?_
  refine sv (yLdBA rfl Try.isAgg29 Try.sizeOf29 (hS.at _) rfl rfl) ?_
  refine sv (yMove rfl) ?_
  refine scall Try.call16 (.cons rfl (.cons rfl (.cons rfl .nil))) (c_rPlan (h.ext hS.ext) (hs.ext hS.ext) hsi) ?_
  rintro _ w ⟨qv, rfl, hM⟩; replace hS := hS.call1 hM; clear hM
  refine sv (yMove rfl) ?_
  refine sv (yExt rfl rfl) ?_
  refine sv (yExt rfl rfl) ?_
  refine sv (yAsg rfl) ?_
  refine sv (yAsg rfl) ?_
  refine nil ?_
  show Code.wp _ _ _ _ _
  refine seq ?_
  refine region ?_
  refine sv (yMove rfl) ?_
  refine sv (yMove rfl) ?_
  refine scall Try.call17 (.cons rfl (.cons rfl .nil)) (c_Ints (sl_ints (hS.row pv) rfl (fun y hy => by have := planL_bd c s start y hy; exact ⟨by omega, by omega⟩)) (sl_ints (hS.row qv) rfl (fun y hy => by have := planL_bd c s start y hy; exact ⟨by omega, by omega⟩))) ?_
  rintro _ w ⟨rfl, hE⟩; replace hS := hS.step hE; clear hE
  refine sv (yMove rfl) ?_
  refine sg rfl rfl rfl (fun g => (yMove rfl)) (fun v29 g29 => ?_)
  refine sg rfl rfl rfl (fun g => (yMove rfl)) (fun v30 g30 => ?_)
  refine sg rfl rfl rfl (fun g => (yEql (g29.1 g) (g30.1 g))) (fun v31 g31 => ?_)
  refine sv (yAnd rfl (fun hB => (g31.1 hB)) rfl) ?_
  refine sv (yMove rfl) ?_
  refine sgc hS rfl rfl rfl Try.call18 (fun g => .nil) (fun g => c_Awake) ?_; clear hS; intro v34 w hS g34
  refine sv (yAnd rfl (fun hB => (g34.1 hB)) rfl) ?_
  refine sv (yAsg rfl) ?_
  refine nil ?_
  show Code.wp _ _ _ _ _
  refine wp_ret ?_
  exact retV (res1 rfl (eqB (by simp))) hS.ext
end Go.Proofs.Ytghgnofilbnbaaa
/- part LibE -/
namespace Bx
open Go Go.RowKit
theorem flat_len {α : Type} {enc : α → List Value} {k : Nat} (hk : ∀ x, (enc x).length = k) : ∀ l : List α, (l.flatMap enc).length = l.length * k
  | [] => by simp
  | x :: l => by rw [List.flatMap_cons, List.length_append, hk, flat_len hk l, List.length_cons, Nat.succ_mul]; omega
theorem gap_outG {α : Type} {enc : α → List Value} {k : Nat} (hk : ∀ x, (enc x).length = k) {ks js l : List α} {j : Nat} {x : α} (hx : l[j]? = some x) (hne : js ≠ []) : ((ks ++ [x]) ++ (js.tail ++ [x]) ++ l.drop (j + 1)).flatMap enc = splice ((ks ++ js ++ l.drop j).flatMap enc) (ks.length * k) (enc x) := by
  obtain ⟨y, js, rfl⟩ := List.exists_cons_of_ne_nil hne
  have hd : l.drop j = x :: l.drop (j + 1) := by
    obtain ⟨h, rfl⟩ := List.getElem?_eq_some_iff.1 hx
    exact List.drop_eq_getElem_cons h
  rw [splice_enc hk _ _ _ (by simp)]
  congr 1
  rw [hd]
  simp [List.set_append]
theorem take_flatG {α : Type} {enc : α → List Value} {k : Nat} (hk : ∀ x, (enc x).length = k) (ks r : List α) : ((ks ++ r).flatMap enc).take (ks.length * k) = ks.flatMap enc := by
  rw [List.flatMap_append, List.take_left']
  exact flat_len hk ks
section
variable {P : Program} {ρ : Operand → Value} {w : World} {ty : TypeId}
/-- The parts from i to j, the room cut at m. -/
theorem ySl3 {T E : TypeId} {x xi xj xm : Operand} {a : Option Addr} {cap i j m k n : Nat} {k1 k2 k3 : IntKind} (hx : ρ x = .slice a n cap) (hi : ρ xi = .int k1 (i : Int)) (hj : ρ xj = .int k2 (j : Int)) (hm : ρ xm = .int k3 (m : Int)) (hu : P.underlying T = some (.slice E)) (hs : ∀ w, (Go.sizeOf E).run P w = .ok k w) (h1 : i ≤ j) (h2 : j ≤ m) (h3 : m ≤ cap) :
    ∃ v, Y P ρ (.slice T x (some xi) (some xj) (some xm)) ty w v w := by
  have b1 : (0 : Int) ≤ (m : Int) ∧ (m : Int) ≤ (cap : Int) := ⟨by omega, by omega⟩
  have b2 : (0 : Int) ≤ (j : Int) ∧ (j : Int) ≤ (m : Int) := ⟨by omega, by omega⟩
  have b3 : (0 : Int) ≤ (i : Int) ∧ (i : Int) ≤ (j : Int) := ⟨by omega, by omega⟩
  refine ⟨.slice (if m = i then a else a.map (·.add (i * k))) (j - i) (m - i), ?_⟩
  simp only [Y, xop, execOp, Option.map_some, Option.map_none, hx, hi, hj, hm, Instr.sliceAt, run_underlying hu, Sem.run_bind, Result.andThen_ok, Instr.slice, Instr.sliceBounds, Instr.sliceBound, asIntOf, Sem.run_pure, Sem.run_ite, b1, b2, b3, and_self, if_true, hs, Int.toNat_natCast]
/-- The parts from i to j, perhaps behind the slice's end. -/
theorem yMid {T E : TypeId} {x xi xj : Operand} {g cap i j k m : Nat} {k1 k2 : IntKind} (hx : ρ x = .slice (some ⟨g, 0, none⟩) m cap) (hi : ρ xi = .int k1 (i : Int)) (hj : ρ xj = .int k2 (j : Int)) (hu : P.underlying T = some (.slice E)) (hs : ∀ w, (Go.sizeOf E).run P w = .ok k w) (h1 : i ≤ j) (h2 : j ≤ cap) :
    Y P ρ (.slice T x (some xi) (some xj) none) ty w (tailV g cap i k j) w := by
  have b2 : (0 : Int) ≤ (j : Int) ∧ (j : Int) ≤ (cap : Int) := ⟨by omega, by omega⟩
  have b3 : (0 : Int) ≤ (i : Int) ∧ (i : Int) ≤ (j : Int) := ⟨by omega, by omega⟩
  have h1' : (⟨g, 0, none⟩ : Addr).add (i * k) = ⟨g, i * k, none⟩ := by rw [addr_add]; simp
  have h0 : ∀ a : Addr, a.add (0 * k) = a := fun a => by rw [Nat.zero_mul]; rfl
  simp only [Y, xop, execOp, Option.map_some, Option.map_none, hx, hi, hj, Instr.sliceAt, run_underlying hu, Sem.run_bind, Result.andThen_ok, Instr.slice, Instr.sliceBounds, Instr.sliceBound, asIntOf, Sem.run_pure, Sem.run_ite, b2, b3, and_self, if_true, hs, Int.toNat_natCast, tailV, h1', Option.map_some]
end
section
variable {P : Program} {ops : Array Oper} {Q : Exit → Act → World → Prop} {n : Nat} {f : Fr} {S : List Nat} {w0 w w' : World} {L : List Item} {rest : List Oper} {d : Nat} {ty : TypeId} {pos : String} {af : Array Edge}
theorem s3 {T E : TypeId} {x xi xj xm : Operand} {a : Option Addr} {cap i j m k q : Nat} {k1 k2 k3 : IntKind} (hx : ev n f x = .slice a q cap) (hi : ev n f xi = .int k1 (i : Int)) (hj : ev n f xj = .int k2 (j : Int)) (hm : ev n f xm = .int k3 (m : Int)) (hu : P.underlying T = some (.slice E)) (hs : ∀ w, (Go.sizeOf E).run P w = .ok k w) (h1 : i ≤ j) (h2 : j ≤ m) (h3 : m ≤ cap)
    (h : ∀ v, wpL P ops Q n rest (upd f d v) w) : wpL P ops Q n (⟨some d, .slice T x (some xi) (some xj) (some xm), ty, pos, af, none⟩ :: rest) f w := by
  obtain ⟨v, hv⟩ := ySl3 (ty := ty) (w := w) hx hi hj hm hu hs h1 h2 h3
  exact sv hv (h v)
/-- append(s[:i], s[j:]..), s a slice of the call's own. -/
theorem sappIn {t e : TypeId} {ti : TypeInfo} {size : Nat} {xs' xx : Operand} {g cap i j m : Nat} {xs : List Value} {Lf : Item → List Item} (hS : StX S w0 w L) (hv : ev n f xs' = .slice (some ⟨g, 0, none⟩) i cap) (hx : ev n f xx = tailV g cap j size m)
    (ht : P.underlying t = some (.slice e)) (hi : P.info? e = some ti) (hsize : ti.size = size) [r : AtR L (.slice (some ⟨g, 0, none⟩) m cap) e size m xs] [q : SetR L (.slice (some ⟨g, 0, none⟩) m cap) Lf] (hij : i ≤ j) (hjm : j ≤ m) (h1 : xs.all (·.oneCell') = true)
    (h : ∀ w', StX S w0 w' (Lf (rowI (.slice (some ⟨g, 0, none⟩) m cap) e size m (splice xs (i * size) (xs.drop (j * size))))) → wpL P ops Q n rest (upd f d (.slice (some ⟨g, 0, none⟩) (i + (m - j)) cap)) w') : wpL P ops Q n (⟨some d, .call ⟨.builtin .append, #[xs', xx], #[t, t]⟩, ty, pos, af, none⟩ :: rest) f w := by
  have hr := hS.row (.slice (some ⟨g, 0, none⟩) m cap)
  obtain ⟨hxl, hr2⟩ := id hr
  rcases hr2 with ⟨e0, _⟩ | ⟨g', cap', cur, e0, -, hg, hnc, hcm, hcs, htk⟩
  · cases e0
  obtain ⟨e1, rfl⟩ := slice_inj e0.symm
  cases e1
  subst hsize
  have hcl : cur.toList.length = cap * ti.size := by simpa using hcs
  have hmc : m * ti.size ≤ cap * ti.size := Nat.mul_le_mul_right _ hnc
  have hjs : j * ti.size ≤ m * ti.size := Nat.mul_le_mul_right _ hjm
  have his : i * ti.size ≤ j * ti.size := Nat.mul_le_mul_right _ hij
  have hnl : (xs.drop (j * ti.size)).length = (m - j) * ti.size := by rw [List.length_drop, hxl, Nat.sub_mul]
  have hsum : j * ti.size + (m - j) * ti.size = m * ti.size := by rw [← Nat.add_mul]; congr 1; omega
  obtain ⟨aa, ha, hnews⟩ : ∃ aa : Addr, (if cap = j then some ⟨g, 0, none⟩ else some ⟨g, j * ti.size, none⟩ : Option Addr) = some aa ∧ ∀ q u, (xs.drop (j * ti.size))[q]? = some u → w.cell? (aa.add q) = some u := by
    by_cases hc : cap = j
    · refine ⟨⟨g, 0, none⟩, if_pos hc, fun q u hq => ?_⟩
      have : (xs.drop (j * ti.size)).length = 0 := by rw [hnl, show m - j = 0 by omega, Nat.zero_mul]
      rw [List.getElem?_eq_none (by omega)] at hq
      cases hq
    · refine ⟨⟨g, j * ti.size, none⟩, if_neg hc, fun q u hq => ?_⟩
      rw [List.getElem?_drop] at hq
      have hc := hr.cells (g := g) rfl
      have := hc (j * ti.size + q) u hq
      rw [addr_add] at this ⊢
      simpa using this
  have hfit : i * ti.size + (xs.drop (j * ti.size)).length ≤ cur.size := by rw [hnl, hcs]; omega
  have hrun := run_append_room (P := P) w t ty e ti ht hi g i cap cur hg aa (m - j) (cap - j) (xs.drop (j * ti.size)) hnl hnews (fun u hu => List.all_eq_true.1 h1 u (List.mem_of_mem_drop hu)) (by omega) hfit
  refine sv (v := .slice (some ⟨g, 0, none⟩) (i + (m - j)) cap) (w' := w.setRow g (cur.toList.take (i * ti.size) ++ xs.drop (j * ti.size) ++ cur.toList.drop (i * ti.size + (xs.drop (j * ti.size)).length)).toArray) ?_ (h _ ?_)
  · rw [tailV, ha] at hx
    simp [Y, xop, execOp, resolve, invoke, builtin, hv, hx, hrun]
  · have hsp : cur.toList.take (i * ti.size) ++ xs.drop (j * ti.size) ++ cur.toList.drop (i * ti.size + (xs.drop (j * ti.size)).length) = splice cur.toList (i * ti.size) (xs.drop (j * ti.size)) := by simp [splice]
    rw [hsp]
    refine hS.app (v := .slice (some ⟨g, 0, none⟩) m cap) (v' := .slice (some ⟨g, 0, none⟩) m cap) ⟨?_, .inr ⟨g, cap, (splice cur.toList (i * ti.size) (xs.drop (j * ti.size))).toArray, rfl, Nat.zero_le _, setRow_heap w g cur _ e _ hg, hnc, hcm, ?_, ?_⟩⟩ ⟨rfl, rfl, rfl, by simp, fun k _ hk => setRow_other w g k _ (fun e => hk (by simp [Value.ownBlock, e]))⟩ (.inl rfl)
    · rw [splice_len _ _ _ (by rw [hxl, hnl]; omega), hxl]
    · rw [List.size_toArray, splice_len _ _ _ (by rw [hcl, hnl]; omega), hcl]
    · rw [List.toList_toArray, splice_take (by rw [hnl]; omega) (by rw [hcl]; exact hmc), htk]
variable {L' : List Item} {κ : Type} [DecidableEq κ]
/-- A part of a map's literal. -/
theorem sins (enc : κ → Value) {T K E : TypeId} {xm xk xv : Operand} {b : Nat} {m : List (κ × Value)} {k : κ} {v : Value} (hS : StX S w0 w L) (hm : ev n f xm = .map (some b)) (hx : ev n f xk = enc k) (hv : ev n f xv = v) (hT : ∀ w, (underlying T).run P w = .ok (.map K E) w)
    (hk : KeyOk P K enc) [i : AtB L b (MapOk enc m)] [j : SetB L b (MapOk enc (setM m k v)) L'] (h : ∀ w', StX S w0 w' L' → wpL P ops Q n rest f w') : wpL P ops Q n (⟨none, .insert T xm xk xv, ty, pos, af, none⟩ :: rest) f w := by
  obtain ⟨o', w', hr, hp, ho⟩ := run_mapUpdate (k := k) (v := v) hT hk (hS.is b)
  refine wpL_skip (w' := w') ?_ (h w' (hS.puts hp ho))
  simp [xop, execOp, hm, hx, hv, hr]
end
section
variable {P : Program} {ρ : Operand → Value} {w : World} {ty : TypeId}
theorem lookJ {op : Op} {g : Option Value} {b : Option Int} (h : Y P ρ op ty w (.tuple #[g.getD (.int .i64 0), .bool g.isSome]) w) (hg : g = b.map (Value.int .i64)) : Y P ρ op ty w (.tuple #[.int .i64 (b.getD 0), .bool b.isSome]) w := by
  subst hg
  cases b <;> exact h
end
end Bx
/- part C26 -/
namespace Bx
open Go Go.RowKit
abbrev LOrd := List Ord
abbrev nOrd : Ord := ⟨0, 0, 0, 0, 0⟩
structure Jd where
  left : List Ord
  done : List (Option Int)
  flt : List (Int × Int)
def hitO (x : Stp) (o : Ord) : Bool := decide (o.kind = x.kind) && decide (o.subj = x.subj)
def befJ (start : Int) (done : List (Option Int)) (a : Int) : Option Int := if a = -1 then some start else if 0 ≤ a then done.getD a.toNat none else none
def fltJ (i : Nat) (x : Stp) (own : Int) : Option Int → List (Int × Int)
  | none => []
  | some b => if own < b + x.least then [(208, (i : Int))] else if b + x.most < own then [(209, (i : Int))] else []
def judS (start : Int) (i : Nat) (x : Stp) (st : Jd) : Jd :=
  if idxF (hitO x) st.left 0 < 0 then ⟨st.left, st.done ++ [none], st.flt ++ [(207, (i : Int))]⟩
  else ⟨st.left.eraseIdx (idxF (hitO x) st.left 0).toNat, st.done ++ [some (st.left.getD (idxF (hitO x) st.left 0).toNat nOrd).tm], st.flt ++ fltJ i x (st.left.getD (idxF (hitO x) st.left 0).toNat nOrd).tm (befJ start st.done x.after)⟩
def judN (s : Scr) (start : Int) (l : List Ord) : Nat → Jd
  | 0 => ⟨l, [], []⟩
  | k + 1 => judS start k (stpAt s k) (judN s start l k)
def judE (c : Crew) (s : Scr) (start : Int) (acts : List Acn) : Int := if (scriptF c s).2 ≠ 0 then (scriptF c s).2 else if neverB start = true then 7 else playE c acts
abbrev leftJ (c : Crew) (acts : List Acn) (start : Int) : List Ord := (playO c acts).filter fun o => !decide (o.tm < start)
def judL (c : Crew) (s : Scr) (start : Int) (acts : List Acn) : List (Int × Int) := if judE c s start acts ≠ 0 then [] else (judN s start (leftJ c acts start) s.steps.length).flt
theorem judE_1 {c : Crew} {s : Scr} {start : Int} {acts : List Acn} (h : (scriptF c s).2 ≠ 0) : judE c s start acts = (scriptF c s).2 ∧ judL c s start acts = [] := by
  have e : judE c s start acts = (scriptF c s).2 := if_pos h
  exact ⟨e, by unfold judL; rw [if_pos (by rw [e]; exact h)]⟩
theorem judE_2 {c : Crew} {s : Scr} {start : Int} {acts : List Acn} (h : (scriptF c s).2 = 0) (h2 : neverB start = true) : judE c s start acts = 7 ∧ judL c s start acts = [] := by
  have e : judE c s start acts = 7 := by unfold judE; rw [if_neg (not_not_intro h), if_pos h2]
  exact ⟨e, by unfold judL; rw [if_pos (by rw [e]; decide)]⟩
theorem judE_3 {c : Crew} {s : Scr} {start : Int} {acts : List Acn} (h : (scriptF c s).2 = 0) (h2 : neverB start = false) (h3 : playE c acts ≠ 0) : judE c s start acts = playE c acts ∧ judL c s start acts = [] := by
  have e : judE c s start acts = playE c acts := by unfold judE; rw [if_neg (not_not_intro h), if_neg (by rw [h2]; decide)]
  exact ⟨e, by unfold judL; rw [if_pos (by rw [e]; exact h3)]⟩
theorem judE_0 {c : Crew} {s : Scr} {start : Int} {acts : List Acn} (h : (scriptF c s).2 = 0) (h2 : neverB start = false) (h3 : playE c acts = 0) : judE c s start acts = 0 ∧ judL c s start acts = (judN s start (leftJ c acts start) s.steps.length).flt := by
  have e : judE c s start acts = 0 := by unfold judE; rw [if_neg (not_not_intro h), if_neg (by rw [h2]; decide), h3]
  exact ⟨e, by unfold judL; rw [if_neg (not_not_intro e)]⟩
theorem judN_succ {s : Scr} {start : Int} {l : List Ord} {k : Nat} {x : Stp} (h : s.steps[k]? = some x) : judN s start l (k + 1) = judS start k x (judN s start l k) := by rw [judN, stpAt_hit h]
theorem judS_no {start : Int} {i : Nat} {x : Stp} {st : Jd} (h : idxF (hitO x) st.left 0 < 0) : judS start i x st = ⟨st.left, st.done ++ [none], st.flt ++ [(207, (i : Int))]⟩ := if_pos h
theorem judS_yes {start : Int} {i k : Nat} {x : Stp} {o : Ord} {st : Jd} (h : idxF (hitO x) st.left 0 = k) (ho : st.left[k]? = some o) : judS start i x st = ⟨st.left.eraseIdx k, st.done ++ [some o.tm], st.flt ++ fltJ i x o.tm (befJ start st.done x.after)⟩ := by
  unfold judS
  rw [if_neg (by omega), h, Int.toNat_natCast, getD_hit ho]
theorem judS_len {start : Int} {i : Nat} {x : Stp} {st : Jd} : (judS start i x st).done.length = st.done.length + 1 := by unfold judS; split <;> simp
theorem judN_len (s : Scr) (start : Int) (l : List Ord) : ∀ k, (judN s start l k).done.length = k
  | 0 => rfl
  | k + 1 => by rw [judN, judS_len, judN_len s start l k]
theorem fltJ_len (i : Nat) (x : Stp) (own : Int) (b : Option Int) : (fltJ i x own b).length ≤ 1 := by
  unfold fltJ
  repeat' split
  all_goals simp
theorem judN_flt (s : Scr) (start : Int) (l : List Ord) : ∀ k, (judN s start l k).flt.length ≤ k
  | 0 => Nat.le_refl _
  | k + 1 => by
    have ih := judN_flt s start l k
    rw [judN]
    unfold judS
    split
    · simp only [List.length_append, List.length_singleton]; omega
    · have := fltJ_len k (stpAt s k) ((judN s start l k).left.getD (idxF (hitO (stpAt s k)) (judN s start l k).left 0).toNat nOrd).tm (befJ start (judN s start l k).done (stpAt s k).after)
      simp only [List.length_append]; omega
theorem judN_left (s : Scr) (start : Int) (l : List Ord) : ∀ k, (judN s start l k).left.length ≤ l.length ∧ ∀ o ∈ (judN s start l k).left, o ∈ l
  | 0 => ⟨Nat.le_refl _, fun o h => h⟩
  | k + 1 => by
    obtain ⟨h1, h2⟩ := judN_left s start l k
    rw [judN]
    unfold judS
    split
    · exact ⟨h1, h2⟩
    · refine ⟨Nat.le_trans (List.length_eraseIdx_le ..) h1, fun o ho => h2 o (List.mem_of_mem_eraseIdx ho)⟩
/-- The orders' times that are known, as the map keeps them. -/
def MapJ (start : Int) (done : List (Option Int)) (M : List (Int × Value)) : Prop := ∀ key : Int, getM M key = (befJ start done key).map (Value.int .i64)
theorem mapJ_0 (start : Int) : MapJ start [] (setM [] (-1) (.int .i64 start)) := by
  intro key
  rw [getM_setM]
  unfold befJ
  by_cases h : key = -1
  · rw [if_pos h, if_pos h]; rfl
  · rw [if_neg h, if_neg h]
    simp [getM]
theorem befJ_none {start : Int} {done : List (Option Int)} {key : Int} : befJ start (done ++ [none]) key = befJ start done key := by
  unfold befJ
  split
  · rfl
  split
  · rw [List.getD_eq_getElem?_getD, List.getD_eq_getElem?_getD]
    by_cases h : key.toNat < done.length
    · rw [List.getElem?_append_left h]
    · rw [List.getElem?_append_right (by omega), List.getElem?_eq_none (l := done) (by omega)]
      by_cases h2 : key.toNat = done.length
      · rw [h2, Nat.sub_self]; rfl
      · rw [List.getElem?_eq_none (by simp; omega)]
  · rfl
theorem mapJ_none {start : Int} {done : List (Option Int)} {M : List (Int × Value)} (h : MapJ start done M) : MapJ start (done ++ [none]) M := fun key => by rw [befJ_none]; exact h key
theorem mapJ_some {start : Int} {done : List (Option Int)} {M : List (Int × Value)} {k : Nat} {t : Int} (h : MapJ start done M) (hk : done.length = k) : MapJ start (done ++ [some t]) (setM M (k : Int) (.int .i64 t)) := by
  intro key
  rw [getM_setM]
  by_cases e : key = (k : Int)
  · rw [if_pos e]
    unfold befJ
    rw [if_neg (by omega), if_pos (by omega), List.getD_eq_getElem?_getD, List.getElem?_append_right (by omega), show key.toNat - done.length = 0 by omega]
    rfl
  · rw [if_neg e, h key]
    unfold befJ
    split
    · rfl
    split
    · rw [List.getD_eq_getElem?_getD, List.getD_eq_getElem?_getD]
      by_cases h2 : key.toNat < done.length
      · rw [List.getElem?_append_left h2]
      · rw [List.getElem?_append_right (by omega), List.getElem?_eq_none (l := done) (by omega), List.getElem?_eq_none (by simp; omega)]
    · rfl
theorem mapJ_in {start : Int} {done : List (Option Int)} {M : List (Int × Value)} {k : Nat} {t : Int} {a : Int} (h : MapJ start done M) (hk : done.length = k) (ha : a < k) : getM (setM M (k : Int) (.int .i64 t)) a = (befJ start done a).map (Value.int .i64) := by
  rw [getM_setM, if_neg (by omega)]
  exact h a
theorem erase_flat {α : Type} {enc : α → List Value} {k : Nat} (hk : ∀ x, (enc x).length = k) {l : List α} {i : Nat} (hi : i < l.length) : (splice (l.flatMap enc) (i * k) ((l.flatMap enc).drop ((i + 1) * k))).take ((l.length - 1) * k) = (l.eraseIdx i).flatMap enc := by
  have e1 : (l.flatMap enc).drop ((i + 1) * k) = (l.drop (i + 1)).flatMap enc := by
    conv => lhs; rw [← List.take_append_drop (i + 1) l, List.flatMap_append]
    rw [List.drop_left']
    rw [flat_len hk, List.length_take, Nat.min_eq_left (by omega)]
  have e2 : (l.flatMap enc).take (i * k) = (l.take i).flatMap enc := by
    conv => lhs; rw [← List.take_append_drop i l, List.flatMap_append]
    rw [List.take_left']
    rw [flat_len hk, List.length_take, Nat.min_eq_left (by omega)]
  rw [List.eraseIdx_eq_take_drop_succ, List.flatMap_append]
  unfold splice
  rw [e1, e2, List.take_left']
  rw [List.length_append, flat_len hk, flat_len hk, List.length_take, List.length_drop, ← Nat.add_mul]
  congr 1
  omega
theorem ords_one (l : List Ord) : (l.flatMap ordC).all (·.oneCell') = true := by
  induction l with
  | nil => rfl
  | cons x l ih => rw [List.flatMap_cons, List.all_append, ih]; rfl
theorem befJ_bd {start : Int} {done : List (Option Int)} {a b : Int} (hs : 0 ≤ start ∧ start ≤ 100000) (hd : ∀ t, some t ∈ done → 0 ≤ t ∧ t ≤ 100000) (h : befJ start done a = some b) : 0 ≤ b ∧ b ≤ 100000 := by
  unfold befJ at h
  split at h
  · cases h; exact hs
  split at h
  · rcases getD_mem (l := done) (i := a.toNat) (d := (none : Option Int)) with hm | hm
    · rw [h] at hm; exact hd b hm
    · rw [hm] at h; cases h
  · cases h
theorem judN_done {s : Scr} {start : Int} {l : List Ord} (hl : ∀ o ∈ l, 0 ≤ o.tm ∧ o.tm ≤ 100000) : ∀ k t, some t ∈ (judN s start l k).done → 0 ≤ t ∧ t ≤ 100000
  | 0, t, h => by cases h
  | k + 1, t, h => by
    rw [judN] at h
    unfold judS at h
    split at h
    · rcases List.mem_append.1 h with h | h
      · exact judN_done hl k t h
      · cases List.mem_singleton.1 h
    · rcases List.mem_append.1 h with h | h
      · exact judN_done hl k t h
      · have e := List.mem_singleton.1 h
        rcases getD_mem (l := (judN s start l k).left) (i := (idxF (hitO (stpAt s k)) (judN s start l k).left 0).toNat) (d := nOrd) with hm | hm
        · have := hl _ ((judN_left s start l k).2 _ hm)
          simp only [Option.some.injEq] at e
          rw [e]; exact this
        · simp only [Option.some.injEq] at e
          rw [hm] at e
          rw [e]; decide
theorem leftJ_ok {c : Crew} {acts : List Acn} {start : Int} (h : playE c acts = 0) : (leftJ c acts start).length ≤ 60 ∧ ∀ o ∈ leftJ c acts start, 0 ≤ o.tm ∧ o.tm ≤ 100000 := by
  obtain ⟨hc, hn, hall⟩ := play_ok h
  have hr := (plN_inv hc hall _ (Nat.le_refl _)).1
  unfold leftJ
  have e : playO c acts = (plN c acts acts.length).2.ords := if_neg (not_not_intro h)
  rw [e]
  refine ⟨Nat.le_trans (List.length_filter_le ..) (Nat.le_trans hr.nord hn), fun o ho => (hr.ords o (List.mem_filter.1 ho).1).2.2.2.2⟩
end Bx
namespace Bx
open Go Go.RowKit
abbrev LMp := List (Int × Value)
theorem fltJ_1 {i : Nat} {x : Stp} {own : Int} {b : Option Int} (h : b.isSome = true) (h2 : own < b.getD 0 + x.least) : fltJ i x own b = [(208, (i : Int))] := by
  cases b with
  | none => cases h
  | some b => exact if_pos h2
theorem fltJ_2 {i : Nat} {x : Stp} {own : Int} {b : Option Int} (h : b.isSome = true) (h2 : ¬ own < b.getD 0 + x.least) (h3 : b.getD 0 + x.most < own) : fltJ i x own b = [(209, (i : Int))] := by
  cases b with
  | none => cases h
  | some b => unfold fltJ; exact (if_neg h2).trans (if_pos h3)
theorem fltJ_0 {i : Nat} {x : Stp} {own : Int} {b : Option Int} (h1 : b.isSome = false ∨ ¬ own < b.getD 0 + x.least) (h2 : b.isSome = false ∨ ¬ b.getD 0 + x.most < own) : fltJ i x own b = [] := by
  cases b with
  | none => rfl
  | some b =>
    unfold fltJ
    exact (if_neg (h1.resolve_left (by simp))).trans (if_neg (h2.resolve_left (by simp)))
theorem fltJ_or {b : Option Int} {p : Prop} (h : b.isSome = false ∨ ¬ p) (hs : b.isSome = true) : ¬ p := h.resolve_left (by rw [hs]; decide)
theorem befJ_getD {start : Int} {done : List (Option Int)} {a : Int} (hs : 0 ≤ start ∧ start ≤ 100000) (hd : ∀ t, some t ∈ done → 0 ≤ t ∧ t ≤ 100000) : 0 ≤ (befJ start done a).getD 0 ∧ (befJ start done a).getD 0 ≤ 100000 := by
  cases h : befJ start done a with
  | none => decide
  | some b => exact befJ_bd hs hd h
end Bx
/- part Ck42 -/
namespace Go.Proofs.Ytghgnofilbnbaaa
open Go Bx
/-- slices.IndexFunc   barrage/api.CrOrder,barrage/api.CrOrder  -/
theorem c_IndexOrd {l : List Bx.Ord} {p : Bx.Ord → Bool} {v : Value} {g : Nat} {cl : List Value} {w0 : World} (hsl : Sl w0 5 ROrd v l) (hcall : ∀ ys w, (callFunc g ys).run Try.prog w = .ok (.enter g ys) w) (hp : ∀ x w, x ∈ l → Ext w0 w → CV Try.prog g (.agg (ordC x).toArray :: cl).toArray w (.bool (p x))) : CV Try.prog 76 #[v, .func (.func g) #[] cl.toArray] w0 (.int .i64 (idxF p l 0)) := by
  obtain ⟨a, cap, rfl, hcap, hmx, hel⟩ := hsl
  refine enter Try.func76 rfl Try.ntmps76 rfl ?_
  have hS := St.start w0
  refine seq ?_
  refine region ?_
  refine sv (yAsg rfl) ?_
  refine nil ?_
  show Code.wp _ _ _ _ _
  refine seq ?_
  refine seq ?_
  refine region ?_
  refine sv (yMove rfl) ?_
  refine sv (yLen rfl Try.underlying46) ?_
  refine sv (yMove rfl) ?_
  refine nil ?_
  show Code.wp _ _ _ _ _
  refine block ?_
  refine loop (fun f w zz => ∃ (k : Nat), f 0 = .slice a l.length cap ∧ f 1 = .func (.func g) #[] cl.toArray ∧ f 7 = .int .i64 (l.length : Int) ∧ f 8 = .int .i64 (k : Int) ∧ StX [] w0 w [] ∧ (k ≤ l.length) ∧ (idxF p l 0 = idxF p (l.drop k) k) ∧ zz = l.length - k) _ ⟨_, rfl, 0, rfl, rfl, rfl, rfl, hS, (Nat.zero_le _), (rfl), rfl⟩ ?_
  clear hS
  rintro f w _ ⟨k, h0, h1, h7, h8, hS, hk, hI, rfl⟩
  refine seq ?_
  refine region ?_
  refine sv (yLss h8 h7) ?_
  refine nil ?_
  show Code.wp _ _ _ _ _
  refine seq ?_
  refine cond rfl (fun c9 => ?_) (fun c9 => ?_)
  ·
    simp only [Bool.and_eq_true, Bool.or_eq_true, Bool.and_eq_false_iff, Bool.or_eq_false_iff, decide_eq_true_eq, decide_eq_false_iff_not, Bool.not_eq_true, Bool.not_eq_false, Bool.not_not, Bool.not_eq_eq_eq_not, Bool.not_true, Bool.not_false, Bool.false_eq_true, Bool.true_eq_false, ne_eq, Decidable.not_not, not_false_eq_true, not_true_eq_false] at c9
    refine skip ?_
    show Code.wp _ _ _ _ _
    refine seq ?_
    refine block ?_
    refine seq ?_
    refine region ?_
    refine sv (yMove h8) ?_
    refine sv (yAsg rfl) ?_
    refine nil ?_
    show Code.wp _ _ _ _ _
    refine seq ?_
    refine region ?_
    obtain ⟨x, hx, hd⟩ := drop_of (l := l) (k := k) (by omega)
    obtain ⟨b, o, cs, ha, hlen, hcs, hR⟩ := hel k (by omega)
    obtain rfl : x = l[k] := (List.getElem?_eq_some_iff.1 hx).2.symm
    obtain ⟨rfl, -⟩ := hR
    refine sv (yMove h1) ?_
    refine sv (yMove h0) ?_
    refine sv (yMove rfl) ?_
    refine sv (yIxa rfl ha rfl Try.runUnderlying46 Try.sizeOf55 (by omega) (by omega)) ?_
    refine sv (yLdA rfl Try.isAgg55 Try.sizeOf55 (hcs.ext hS.ext) rfl) ?_
    refine scallf rfl hcall (.cons rfl .nil) (hp _ _ (List.getElem_mem _) hS.ext) ?_
    rintro _ w ⟨rfl, hE⟩; replace hS := hS.step hE; clear hE
    refine nil ?_
    show Code.wp _ _ _ _ _
    refine cond rfl (fun c16 => ?_) (fun c16 => ?_)
    ·
      refine seq ?_
      refine region ?_
      refine sv (yMove rfl) ?_
      refine sv (yAsg rfl) ?_
      refine nil ?_
      show Code.wp _ _ _ _ _
      refine wp_ret (blockR (thenR (thenR (blockR (thenR ?_)))))
      exact retV (res1 rfl (by rw [hI, hd, idxF, if_pos c16]; rfl)) hS.ext
    ·
      refine skip ?_
      show Code.wp _ _ _ _ _
      refine region ?_
      refine sv (yAdd h8 rfl ⟨by omega, by omega⟩) ?_
      refine sv (yMove rfl) ?_
      refine nil ?_
      exact ⟨_, _, rfl, ⟨k + 1, h0, h1, h7, rfl, hS, (by omega), (by rw [hI, hd, idxF, if_neg (by simp [c16])]; rfl), rfl⟩, by omega⟩
  ·
    simp only [Bool.and_eq_true, Bool.or_eq_true, Bool.and_eq_false_iff, Bool.or_eq_false_iff, decide_eq_true_eq, decide_eq_false_iff_not, Bool.not_eq_true, Bool.not_eq_false, Bool.not_not, Bool.not_eq_eq_eq_not, Bool.not_true, Bool.not_false, Bool.false_eq_true, Bool.true_eq_false, ne_eq, Decidable.not_not, not_false_eq_true, not_true_eq_false] at c9
    refine exit ?_
    show Code.wp _ _ _ _ _
    refine seq ?_
    refine region ?_
    refine sv (yAsg rfl) ?_
    refine nil ?_
    show Code.wp _ _ _ _ _
    obtain rfl : k = l.length := by omega
    refine wp_ret ?_
    exact retV (res1 rfl (by rw [hI, List.drop_length]; rfl)) hS.ext
set_option maxHeartbeats 2000000 in
/-- slices.DeleteFunc   barrage/api.CrOrder,barrage/api.CrOrder  -/
theorem c_DeleteOrd {l : List Bx.Ord} {p : Bx.Ord → Bool} {a : Option Addr} {cap g : Nat} {cl : List Value} {w0 : World} (hr : w0.ownsRow 0 55 5 (.slice a l.length cap) l.length (l.flatMap ordC)) (hcall : ∀ ys w, (callFunc g ys).run Try.prog w = .ok (.enter g ys) w) (hp : ∀ x w, x ∈ l → ExtX (Value.slice a l.length cap).ownBlock.toList w0 w → CV Try.prog g (.agg (ordC x).toArray :: cl).toArray w (.bool (p x))) (hlen : l.length ≤ 1000) : CE Try.prog 74 #[.slice a l.length cap, .func (.func g) #[] cl.toArray] w0 (fun u w' => u = .slice a (l.filter fun x => !p x).length cap ∧ StX (Value.slice a l.length cap).ownBlock.toList w0 w' [rowI (.slice a (l.filter fun x => !p x).length cap) 55 5 (l.filter fun x => !p x).length ((l.filter fun x => !p x).flatMap ordC)]) := by
  refine enter Try.func74 rfl Try.ntmps74 rfl ?_
  have hS := StX.startR hr
  refine seq ?_
  refine region ?_
  refine sv (yAsg rfl) ?_
  refine nil ?_
  show Code.wp _ _ _ _ _
  refine seq ?_
  refine region ?_
  refine sv (yMove rfl) ?_
  refine sv (yMove rfl) ?_
  refine scall Try.call76 (.cons rfl (.cons rfl .nil)) (c_IndexOrd (sl_ords (hS.row (.slice a l.length cap)) rfl) hcall (fun x w hx e => hp x w hx (hS.extx.trans e))) ?_
  rintro _ w ⟨rfl, hE⟩; replace hS := hS.step hE; clear hE
  have hix := idxF_spec p l 0 (Int.le_refl 0)
  generalize idxF p l 0 = ix at hix ⊢
  refine sv (yAsg rfl) ?_
  refine nil ?_
  show Code.wp _ _ _ _ _
  refine seq ?_
  refine seq ?_
  refine region ?_
  refine sv (yMove rfl) ?_
  refine sv (yEql rfl rfl) ?_
  refine nil ?_
  show Code.wp _ _ _ _ _
  refine cond rfl (fun c12 => ?_) (fun c12 => ?_)
  ·
    simp only [Bool.and_eq_true, Bool.or_eq_true, Bool.and_eq_false_iff, Bool.or_eq_false_iff, decide_eq_true_eq, decide_eq_false_iff_not, Bool.not_eq_true, Bool.not_eq_false, Bool.not_not, Bool.not_eq_eq_eq_not, Bool.not_true, Bool.not_false, Bool.false_eq_true, Bool.true_eq_false, ne_eq, Decidable.not_not, not_false_eq_true, not_true_eq_false] at c12
    have hfl : (l.filter fun x => !p x) = l := by
      rcases hix with ⟨-, h⟩ | ⟨k, -, h, -⟩
      · exact h
      · omega
    refine seq ?_
    refine region ?_
    refine sv (yMove rfl) ?_
    refine sv (yAsg rfl) ?_
    refine nil ?_
    show Code.wp _ _ _ _ _
    refine wp_ret (thenR ?_)
    refine retQ (res1 rfl rfl) ?_
    rw [hfl]
    exact ⟨rfl, hS⟩
  ·
    simp only [Bool.and_eq_true, Bool.or_eq_true, Bool.and_eq_false_iff, Bool.or_eq_false_iff, decide_eq_true_eq, decide_eq_false_iff_not, Bool.not_eq_true, Bool.not_eq_false, Bool.not_not, Bool.not_eq_eq_eq_not, Bool.not_true, Bool.not_false, Bool.false_eq_true, Bool.true_eq_false, ne_eq, Decidable.not_not, not_false_eq_true, not_true_eq_false] at c12
    obtain ⟨i0, hi0, hie, hi1, z, hz, hpz⟩ := hix.resolve_left (fun h => c12 h.1)
    obtain ⟨gb, rfl, -⟩ := row_get (hS.row (.slice a l.length cap)) (by omega)
    obtain rfl : ix = (i0 : Int) := by omega
    have hcap : l.length ≤ cap := by
      obtain ⟨g2, c2, e2, h2, -⟩ := row_some (hS.row (.slice (some ⟨gb, 0, none⟩) l.length cap)) (by omega)
      obtain ⟨-, rfl⟩ := slice_inj e2
      exact h2
    refine skip ?_
    show Code.wp _ _ _ _ _
    refine seq ?_
    refine seq ?_
    refine region ?_
    refine sv (yMove rfl) ?_
    refine sv (yAdd rfl rfl ⟨by omega, by omega⟩) ?_
    refine sv (yAsg rfl) ?_
    refine nil ?_
    show Code.wp _ _ _ _ _
    refine block ?_
    have htl : (l.take i0).length = i0 := by simp; omega
    refine loop (fun f w zz => ∃ (ks js : LOrd) (j : Nat), f 0 = .slice (some ⟨gb, 0, none⟩) l.length cap ∧ f 1 = .func (.func g) #[] cl.toArray ∧ f 5 = .int .i64 (ks.length : Int) ∧ f 6 = .int .i64 (j : Int) ∧ StX (Value.slice (some ⟨gb, 0, none⟩) l.length cap).ownBlock.toList w0 w ([rowI (.slice (some ⟨gb, 0, none⟩) l.length cap) 55 5 l.length ((ks ++ js ++ l.drop j).flatMap ordC)]) ∧ (j ≤ l.length) ∧ (ks.length + js.length = j) ∧ (js ≠ []) ∧ ((l.filter fun x => !p x) = ks ++ (l.drop j).filter fun x => !p x) ∧ zz = l.length - j) _ ⟨_, rfl, l.take i0, [z], i0 + 1, rfl, rfl, (by rw [htl]; exact rfl), rfl, (by rw [cut_at hz]; exact hS), (by omega), (by rw [htl]; rfl), (by simp), (filter_at hz hi1 hpz), rfl⟩ ?_
    clear hS
    rintro f w _ ⟨ks, js, j, h0, h1, h5, h6, hS, hj, hl, hne, hI, rfl⟩
    refine seq ?_
    refine seq ?_
    refine region ?_
    refine sv (yMove h6) ?_
    refine sv (yMove h0) ?_
    refine sv (yLen rfl Try.underlying46) ?_
    refine sv (yLss rfl rfl) ?_
    refine nil ?_
    show Code.wp _ _ _ _ _
    refine cond rfl (fun c19 => ?_) (fun c19 => ?_)
    ·
      simp only [Bool.and_eq_true, Bool.or_eq_true, Bool.and_eq_false_iff, Bool.or_eq_false_iff, decide_eq_true_eq, decide_eq_false_iff_not, Bool.not_eq_true, Bool.not_eq_false, Bool.not_not, Bool.not_eq_eq_eq_not, Bool.not_true, Bool.not_false, Bool.false_eq_true, Bool.true_eq_false, ne_eq, Decidable.not_not, not_false_eq_true, not_true_eq_false] at c19
      obtain ⟨x, hx, hd⟩ := drop_of (l := l) (k := j) (by omega)
      refine skip ?_
      show Code.wp _ _ _ _ _
      refine seq ?_
      refine block ?_
      refine seq ?_
      refine region ?_
      refine sv (yMove h0) ?_
      refine sv (yMove h6) ?_
      refine sv (yIx0 rfl rfl Try.runUnderlying46 Try.sizeOf55 (by omega)) ?_
      refine sv (yLdA rfl Try.isAgg55 Try.sizeOf55 (flat_cells0 ordC_len (row_at (hS.row (.slice (some ⟨gb, 0, none⟩) l.length cap)) rfl (by omega)) (mid_get hl hx)) rfl) ?_
      refine salloc hS Try.zeroValue55 rfl ?_; clear hS; intro b7 w hS
      refine sst hS rfl rfl Try.sizeOf55 rfl rfl rfl rfl ?_; clear hS; intro w hS
      refine nil ?_
      show Code.wp _ _ _ _ _
      refine seq ?_
      refine region ?_
      refine sv (yMove h1) ?_
      refine sv (yLdBA rfl Try.isAgg55 Try.sizeOf55 (hS.at _) rfl rfl) ?_
      refine scallf rfl hcall (.cons rfl .nil) (hp x _ (List.mem_of_getElem? hx) hS.extx) ?_
      rintro _ w ⟨rfl, hE⟩; replace hS := hS.step hE; clear hE
      refine sv (yNot rfl) ?_
      refine nil ?_
      show Code.wp _ _ _ _ _
      refine cond rfl (fun c29 => ?_) (fun c29 => ?_)
      ·
        simp only [Bool.not_eq_true', Bool.not_eq_false', Bool.not_eq_true, Bool.not_eq_false] at c29
        refine seq ?_
        refine region ?_
        refine sv (yMove h0) ?_
        refine sv (yMove h5) ?_
        refine sv (yLdBA rfl Try.isAgg55 Try.sizeOf55 (hS.at _) rfl rfl) ?_
        refine sv (yIx0 rfl rfl Try.runUnderlying46 Try.sizeOf55 (by have := List.length_pos_iff.2 hne; omega)) ?_
        refine srst (m := l.length) (cap := cap) (sz := 5) (vs := ordC x) hS rfl rfl Try.sizeOf55 rfl rfl (by have := List.length_pos_iff.2 hne; omega) rfl ?_; clear hS; intro w hS
        refine nil ?_
        show Code.wp _ _ _ _ _
        refine region ?_
        refine sv (yMove h5) ?_
        refine sv (yAdd rfl rfl ⟨by omega, by omega⟩) ?_
        refine sv (yAsg rfl) ?_
        refine nil ?_
        show Code.wp _ _ _ _ _
        refine region ?_
        refine sv (yMove h6) ?_
        refine sv (yAdd rfl rfl ⟨by omega, by omega⟩) ?_
        refine sv (yAsg rfl) ?_
        refine nil ?_
        exact ⟨_, _, rfl, ⟨ks ++ [x], js.tail ++ [x], j + 1, h0, h1, (by rw [List.length_append]; exact rfl), rfl, (by rw [gap_outG ordC_len hx hne]; exact hS.sub (.cons _ (List.Sublist.refl _))), (by omega), (by simp; have := List.length_pos_iff.2 hne; omega), (by simp), (by rw [hI, hd, List.filter_cons_of_pos (by simpa using c29)]; simp), rfl⟩, by omega⟩
      ·
        simp only [Bool.not_eq_true', Bool.not_eq_false', Bool.not_eq_true, Bool.not_eq_false] at c29
        refine skip ?_
        show Code.wp _ _ _ _ _
        refine region ?_
        refine sv (yMove h6) ?_
        refine sv (yAdd rfl rfl ⟨by omega, by omega⟩) ?_
        refine sv (yAsg rfl) ?_
        refine nil ?_
        exact ⟨_, _, rfl, ⟨ks, js ++ [x], j + 1, h0, h1, h5, rfl, (by rw [gap_in hx]; exact hS.sub (.cons _ (List.Sublist.refl _))), (by omega), (by simp; omega), (by simp), (by rw [hI, hd, List.filter_cons_of_neg (by simp [c29])]), rfl⟩, by omega⟩
    ·
      simp only [Bool.and_eq_true, Bool.or_eq_true, Bool.and_eq_false_iff, Bool.or_eq_false_iff, decide_eq_true_eq, decide_eq_false_iff_not, Bool.not_eq_true, Bool.not_eq_false, Bool.not_not, Bool.not_eq_eq_eq_not, Bool.not_true, Bool.not_false, Bool.false_eq_true, Bool.true_eq_false, ne_eq, Decidable.not_not, not_false_eq_true, not_true_eq_false] at c19
      obtain rfl : j = l.length := by omega
      rw [List.drop_length] at hI
      have hfin : (l.filter fun x => !p x) = ks := by rw [hI]; simp
      refine exit ?_
      show Code.wp _ _ _ _ _
      refine seq ?_
      refine region ?_
      refine sv (yMove h0) ?_
      refine sv (yMove h5) ?_
      refine sv (yTail rfl rfl Try.underlying46 Try.sizeOf55 (by omega)) ?_
      refine sclear (i := ks.length) (m := l.length) hS rfl Try.underlying46 Try.zeroValue55 rfl (by decide) (by decide) (by omega) ?_; clear hS; intro w hS
      refine nil ?_
      show Code.wp _ _ _ _ _
      refine seq ?_
      refine region ?_
      refine sv (yMove h0) ?_
      refine sv (yMove h5) ?_
      refine sv (yHead ⟨_, rfl⟩ rfl rfl Try.underlying46 Try.sizeOf55 (by omega)) ?_
      refine sv (yAsg rfl) ?_
      refine nil ?_
      show Code.wp _ _ _ _ _
      refine wp_ret ?_
      refine retQ (res1 rfl rfl) ?_
      rw [hfin]
      rw [List.append_assoc, take_flatG ordC_len] at hS
      exact ⟨rfl, hS⟩
set_option maxHeartbeats 2000000 in
/-- slices.Delete   barrage/api.CrOrder,barrage/api.CrOrder  -/
theorem c_Del1Ord {l : List Bx.Ord} {gb cap i : Nat} {w0 : World} (hr : w0.ownsRow 0 55 5 (.slice (some ⟨gb, 0, none⟩) l.length cap) l.length (l.flatMap ordC)) (hi : i < l.length) (hlen : l.length ≤ 1000) : CE Try.prog 78 #[.slice (some ⟨gb, 0, none⟩) l.length cap, .int .i64 (i : Int), .int .i64 ((i : Int) + 1)] w0 (fun u w' => u = .slice (some ⟨gb, 0, none⟩) (l.eraseIdx i).length cap ∧ StX (Value.slice (some ⟨gb, 0, none⟩) l.length cap).ownBlock.toList w0 w' [rowI (.slice (some ⟨gb, 0, none⟩) (l.eraseIdx i).length cap) 55 5 (l.eraseIdx i).length ((l.eraseIdx i).flatMap ordC)]) := by
  refine enter Try.func78 rfl Try.ntmps78 rfl ?_
  have hS := StX.startR hr
  have hcap := row_cap hr
  refine seq ?_
  refine region ?_
  refine sv (yAsg rfl) ?_
  refine nil ?_
  show Code.wp _ _ _ _ _
  refine seq ?_
  refine region ?_
  refine sv (yMove rfl) ?_
  refine sv (yMove rfl) ?_
  refine sv (yMove rfl) ?_
  refine sv (yMove rfl) ?_
  refine sv (yLen rfl Try.underlying46) ?_
  refine s3 (i := i) (j := i + 1) (m := l.length) rfl rfl (rfl.trans (congrArg (Value.int .i64) (show (i : Int) + 1 = ((i + 1 : Nat) : Int) by omega))) rfl Try.underlying46 Try.sizeOf55 (by omega) (by omega) (by omega) ?_; intro v13
  refine nil ?_
  show Code.wp _ _ _ _ _
  refine seq ?_
  refine seq ?_
  refine region ?_
  refine sv (yMove rfl) ?_
  refine sv (yMove rfl) ?_
  refine sv (yEql rfl rfl) ?_
  refine nil ?_
  show Code.wp _ _ _ _ _
  refine cond rfl (fun c16 => ?_) (fun c16 => ?_)
  ·
    simp only [Bool.and_eq_true, Bool.or_eq_true, Bool.and_eq_false_iff, Bool.or_eq_false_iff, decide_eq_true_eq, decide_eq_false_iff_not, Bool.not_eq_true, Bool.not_eq_false, Bool.not_not, Bool.not_eq_eq_eq_not, Bool.not_true, Bool.not_false, Bool.false_eq_true, Bool.true_eq_false, ne_eq, Decidable.not_not, not_false_eq_true, not_true_eq_false] at c16
    exfalso; omega
  ·
    simp only [Bool.and_eq_true, Bool.or_eq_true, Bool.and_eq_false_iff, Bool.or_eq_false_iff, decide_eq_true_eq, decide_eq_false_iff_not, Bool.not_eq_true, Bool.not_eq_false, Bool.not_not, Bool.not_eq_eq_eq_not, Bool.not_true, Bool.not_false, Bool.false_eq_true, Bool.true_eq_false, ne_eq, Decidable.not_not, not_false_eq_true, not_true_eq_false] at c16
    refine skip ?_
    show Code.wp _ _ _ _ _
    refine seq ?_
    refine region ?_
    refine sv (yMove rfl) ?_
    refine sv (yLen rfl Try.underlying46) ?_
    refine sv (yAsg rfl) ?_
    refine nil ?_
    show Code.wp _ _ _ _ _
    refine seq ?_
    refine region_tail mixed 6 (by kernel_rfl) hS ?_
    refine qv (fun w hS => (yMove rfl)) ?_
    refine qv (fun w hS => (yMove rfl)) ?_
    refine qv (fun w hS => (yTo rfl rfl Try.underlying46 Try.sizeOf55 (by omega))) ?_
    refine qv (fun w hS => (yMove rfl)) ?_
    refine qv (fun w hS => (yMove rfl)) ?_
    refine qv (fun w hS => (yTail (i := i + 1) rfl (rfl.trans (congrArg (Value.int .i64) (show (i : Int) + 1 = ((i + 1 : Nat) : Int) by omega))) Try.underlying46 Try.sizeOf55 (by omega))) ?_
    clear hS; refine qtl (fun w hS => ?_)
    refine sappIn (size := 5) (j := i + 1) (m := l.length) hS rfl rfl Try.underlying46 ti55 rfl (by omega) (by omega) (ords_one l) ?_; clear hS; intro w hS
    refine sv (yAsg rfl) ?_
    refine nil ?_
    show Code.wp _ _ _ _ _
    refine seq ?_
    refine region ?_
    refine sv (yMove rfl) ?_
    refine sv (yMove rfl) ?_
    refine sv (yLen rfl Try.underlying46) ?_
    refine sv (yMove rfl) ?_
    refine sv (yMid (i := l.length - 1) (j := l.length) rfl (rfl.trans (congrArg (Value.int .i64) (by omega))) rfl Try.underlying46 Try.sizeOf55 (by omega) (by omega)) ?_
    refine sclear (i := l.length - 1) (m := l.length) hS rfl Try.underlying46 Try.zeroValue55 rfl (by decide) (by decide) (by omega) ?_; clear hS; intro w hS
    refine nil ?_
    show Code.wp _ _ _ _ _
    refine seq ?_
    refine region ?_
    refine sv (yMove rfl) ?_
    refine sv (yAsg rfl) ?_
    refine nil ?_
    show Code.wp _ _ _ _ _
    refine wp_ret ?_
    refine retQ (res1 rfl rfl) ?_
    have hel : (l.eraseIdx i).length = l.length - 1 := List.length_eraseIdx_of_lt hi
    rw [hel, show i + (l.length - (i + 1)) = l.length - 1 by omega]
    rw [erase_flat ordC_len hi] at hS
    exact ⟨rfl, hS⟩
end Go.Proofs.Ytghgnofilbnbaaa
/- part Ck43 -/
namespace Go.Proofs.Ytghgnofilbnbaaa
open Go Bx
/-- barrage/crew.Judge closure 1 -/
theorem c_jud1 {o : Bx.Ord} {start : Int} {b : Nat} {T : TypeId} {w0 : World} (hb : w0.heap[b]? = some (.cells [.int .i64 start].toArray T (0, 0))) : CV Try.prog 75 #[.agg (ordC o).toArray, .pointer (some ⟨b, 0, none⟩)] w0 (.bool (decide (o.tm < start))) := by
  refine enter Try.func75 rfl Try.ntmps75 rfl ?_
  have hS := St.start w0
  refine seq ?_
  refine region ?_
  refine sbox hS rfl rfl ?_; clear hS; intro b2 w hS
  refine sv (yAsg rfl) ?_
  refine nil ?_
  show Code.wp _ _ _ _ _
  refine seq ?_
  refine region ?_
  refine sv (fa55_4 rfl) ?_
  refine sv (yLdB rfl Try.isAgg3 (hS.at _) rfl) ?_
  refine sv (yLdB rfl Try.isAgg3 (hS.ext.get hb) rfl) ?_
  refine sv (yLss rfl rfl) ?_
  refine sv (yAsg rfl) ?_
  refine nil ?_
  show Code.wp _ _ _ _ _
  refine wp_ret ?_
  exact retV (res1 rfl rfl) hS.ext
/-- barrage/crew.Judge closure 2 -/
theorem c_jud2 {o : Bx.Ord} {x : Stp} {b : Nat} {T : TypeId} {w0 : World} (hb : w0.heap[b]? = some (.cells (stpC x).toArray T (0, 0))) : CV Try.prog 77 #[.agg (ordC o).toArray, .pointer (some ⟨b, 0, none⟩)] w0 (.bool (hitO x o)) := by
  refine enter Try.func77 rfl Try.ntmps77 rfl ?_
  have hS := St.start w0
  refine seq ?_
  refine region ?_
  refine sbox hS rfl rfl ?_; clear hS; intro b2 w hS
  refine sv (yAsg rfl) ?_
  refine nil ?_
  show Code.wp _ _ _ _ _
  refine seq ?_
  refine region ?_
  refine sv (fa55_2 rfl) ?_
  refine sv (yLdB rfl Try.isAgg3 (hS.at _) rfl) ?_
  refine sv (fa89_0 rfl) ?_
  refine sv (yLdB rfl Try.isAgg3 (hS.ext.get hb) rfl) ?_
  refine sv (yEql rfl rfl) ?_
  refine sv (yMove rfl) ?_
  refine sg rfl rfl rfl (fun g => (fa55_3 rfl)) (fun v10 g10 => ?_)
  refine sg rfl rfl rfl (fun g => (yLdB (g10.1 g) Try.isAgg3 (hS.at _) rfl)) (fun v11 g11 => ?_)
  refine sg rfl rfl rfl (fun g => (fa89_1 rfl)) (fun v12 g12 => ?_)
  refine sg rfl rfl rfl (fun g => (yLdB (g12.1 g) Try.isAgg3 (hS.ext.get hb) rfl)) (fun v13 g13 => ?_)
  refine sg rfl rfl rfl (fun g => (yEql (g11.1 g) (g13.1 g))) (fun v14 g14 => ?_)
  refine sv (yAnd rfl (fun hB => (g14.1 hB)) rfl) ?_
  refine sv (yAsg rfl) ?_
  refine nil ?_
  show Code.wp _ _ _ _ _
  refine wp_ret ?_
  exact retV (res1 rfl rfl) hS.ext
set_option maxHeartbeats 8000000 in
/-- barrage/crew.Judge -/
theorem c_Judge {c : Crew} {cs ss : List Value} {s : Scr} {start : Int} {acts : List Acn} {av : Value} {w0 : World} (h : RCrew w0 cs c) (hs : RScr w0 ss s) (hsi : I64 start) (ha : Sl w0 6 RAct av acts) : CE Try.prog 38 #[.agg cs.toArray, .agg ss.toArray, .int .i64 start, av] w0 (fun u w' => ∃ lv, u = .tuple #[lv, .int .i64 (judE c s start acts)] ∧ St w0 w' [rowI lv 98 2 (judL c s start acts).length ((judL c s start acts).flatMap pC)]) := by
  obtain ⟨ov, kv, nv, rfl, hso, hsk, hsn, hrm⟩ := id h
  obtain ⟨a, cap, rfl, hcap, hmx, hel⟩ := id hso
  obtain ⟨sv, rfl, hsz, hst⟩ := id hs
  obtain ⟨ax, cps, rfl, hscap, hsmx, hels⟩ := id hst
  obtain ⟨aa, ca, rfl, -⟩ := id ha
  refine enter Try.func38 rfl Try.ntmps38 rfl ?_
  have hS := St.start w0
  refine seq ?_
  refine region ?_
  refine sbox hS rfl rfl ?_; clear hS; intro b4 w hS
  refine sbox hS rfl rfl ?_; clear hS; intro b5 w hS
  refine sbox hS rfl rfl ?_; clear hS; intro b6 w hS
  refine sv (yAsg rfl) ?_
  refine sv (yAsg rfl) ?_
  refine nil ?_
  show Code.wp _ _ _ _ _
  refine seq ?_
  refine seq ?_
  refine region ?_
  refine sv (yLdBA rfl Try.isAgg26 Try.sizeOf26 (hS.at _) rfl rfl) ?_
  refine sv (yLdBA rfl Try.isAgg29 Try.sizeOf29 (hS.at _) rfl rfl) ?_
  refine scall Try.call23 (.cons rfl (.cons rfl .nil)) (c_CheckScript (h.ext hS.ext) (hs.ext hS.ext)) ?_
  rintro _ w ⟨rfl, hE⟩; replace hS := hS.step hE; clear hE
  refine sv (yMove rfl) ?_
  refine sv (yExt rfl rfl) ?_
  refine sv (yExt rfl rfl) ?_
  refine sv (yAsg rfl) ?_
  refine nil ?_
  show Code.wp _ _ _ _ _
  refine seq ?_
  refine region ?_
  refine sv (yMove rfl) ?_
  refine sv (yNeq rfl rfl) ?_
  refine nil ?_
  show Code.wp _ _ _ _ _
  refine cond rfl (fun c25 => ?_) (fun c25 => ?_)
  ·
    simp only [Bool.and_eq_true, Bool.or_eq_true, Bool.and_eq_false_iff, Bool.or_eq_false_iff, decide_eq_true_eq, decide_eq_false_iff_not, Bool.not_eq_true, Bool.not_eq_false, Bool.not_not, Bool.not_eq_eq_eq_not, Bool.not_true, Bool.not_false, Bool.false_eq_true, Bool.true_eq_false, ne_eq, Decidable.not_not, not_false_eq_true, not_true_eq_false] at c25
    refine seq ?_
    refine region ?_
    refine sv (yMove rfl) ?_
    refine sv (yAsg rfl) ?_
    refine sv (yAsg rfl) ?_
    refine nil ?_
    show Code.wp _ _ _ _ _
    refine wp_ret (thenR ?_)
    refine retQ (res2 rfl rfl rfl) ?_
    exact ⟨_, by (rw [(judE_1 c25).1]; try rfl), by rw [(judE_1 c25).2]; exact (hS.nilrow 98 2).sub (.cons_cons _ (List.nil_sublist _))⟩
  ·
    simp only [Bool.and_eq_true, Bool.or_eq_true, Bool.and_eq_false_iff, Bool.or_eq_false_iff, decide_eq_true_eq, decide_eq_false_iff_not, Bool.not_eq_true, Bool.not_eq_false, Bool.not_not, Bool.not_eq_eq_eq_not, Bool.not_true, Bool.not_false, Bool.false_eq_true, Bool.true_eq_false, ne_eq, Decidable.not_not, not_false_eq_true, not_true_eq_false] at c25
    have hok := scrOk_of c25
    have hlen := hok.len
    refine skip ?_
    show Code.wp _ _ _ _ _
    refine seq ?_
    refine seq ?_
    refine region ?_
    refine sv (yLdB rfl Try.isAgg3 (hS.at _) rfl) ?_
    refine scall Try.call42 (.cons rfl .nil) c_never ?_
    rintro _ w ⟨rfl, hE⟩; replace hS := hS.step hE; clear hE
    refine nil ?_
    show Code.wp _ _ _ _ _
    refine cond rfl (fun c28 => ?_) (fun c28 => ?_)
    ·
      refine seq ?_
      refine region ?_
      refine sv (yAsg rfl) ?_
      refine sv (yAsg rfl) ?_
      refine nil ?_
      show Code.wp _ _ _ _ _
      refine wp_ret (thenR ?_)
      refine retQ (res2 rfl rfl rfl) ?_
      exact ⟨_, by (rw [(judE_2 c25 c28).1]; try rfl), by rw [(judE_2 c25 c28).2]; exact (hS.nilrow 98 2).sub (.cons_cons _ (List.nil_sublist _))⟩
    ·
      refine skip ?_
      show Code.wp _ _ _ _ _
      refine seq ?_
      refine region ?_
      refine sv (yLdBA rfl Try.isAgg26 Try.sizeOf26 (hS.at _) rfl rfl) ?_
      refine sv (yMove rfl) ?_
      refine scall Try.call19 (.cons rfl (.cons rfl .nil)) (c_Orders (h.ext hS.ext) (ha.ext RAct.stays hS.ext)) ?_
      rintro _ w ⟨ov, rfl, hM⟩; replace hS := hS.call1 hM; clear hM
      obtain ⟨ao, co, rfl⟩ := row_shape (hS.row ov)
      refine sv (yMove rfl) ?_
      refine sv (yExt rfl rfl) ?_
      refine sv (yExt rfl rfl) ?_
      refine sv (yAsg rfl) ?_
      refine sv (yAsg rfl) ?_
      refine nil ?_
      show Code.wp _ _ _ _ _
      refine seq ?_
      refine seq ?_
      refine region ?_
      refine sv (yMove rfl) ?_
      refine sv (yNeq rfl rfl) ?_
      refine nil ?_
      show Code.wp _ _ _ _ _
      refine cond rfl (fun c36 => ?_) (fun c36 => ?_)
      ·
        simp only [Bool.and_eq_true, Bool.or_eq_true, Bool.and_eq_false_iff, Bool.or_eq_false_iff, decide_eq_true_eq, decide_eq_false_iff_not, Bool.not_eq_true, Bool.not_eq_false, Bool.not_not, Bool.not_eq_eq_eq_not, Bool.not_true, Bool.not_false, Bool.false_eq_true, Bool.true_eq_false, ne_eq, Decidable.not_not, not_false_eq_true, not_true_eq_false] at c36
        refine seq ?_
        refine region ?_
        refine sv (yMove rfl) ?_
        refine sv (yAsg rfl) ?_
        refine sv (yAsg rfl) ?_
        refine nil ?_
        show Code.wp _ _ _ _ _
        refine wp_ret (thenR ?_)
        refine retQ (res2 rfl rfl rfl) ?_
        exact ⟨_, by (rw [(judE_3 c25 c28 c36).1]; try rfl), by rw [(judE_3 c25 c28 c36).2]; exact (hS.nilrow 98 2).sub (.cons_cons _ (List.nil_sublist _))⟩
      ·
        simp only [Bool.and_eq_true, Bool.or_eq_true, Bool.and_eq_false_iff, Bool.or_eq_false_iff, decide_eq_true_eq, decide_eq_false_iff_not, Bool.not_eq_true, Bool.not_eq_false, Bool.not_not, Bool.not_eq_eq_eq_not, Bool.not_true, Bool.not_false, Bool.false_eq_true, Bool.true_eq_false, ne_eq, Decidable.not_not, not_false_eq_true, not_true_eq_false] at c36
        obtain ⟨hlf, hlt⟩ := leftJ_ok (start := start) c36
        have hst2 := outB_false.1 c28
        have hfin := judE_0 c25 c28 c36
        have hpo : (playO c acts).length ≤ 1000 := by rw [playO_ok c36]; obtain ⟨h1, h2, h3⟩ := play_ok c36; have := (plN_inv h1 h3 _ (Nat.le_refl _)).1.nord; omega
        refine skip ?_
        show Code.wp _ _ _ _ _
        refine seq ?_
        refine cutK (fun f => f 5 = .pointer (some ⟨b5, 0, none⟩) ∧ f 6 = .pointer (some ⟨b6, 0, none⟩) ∧ f 8 = .slice none 0 0 ∧ f 10 = .slice ao (playO c acts).length co ∧ True) ⟨rfl, rfl, rfl, rfl, trivial⟩ ?_
        rintro f ⟨h5, h6, h8, h10, -⟩
        refine region ?_
        replace hS := hS.sub (.cons_cons _ (.cons_cons _ (.cons_cons _ (List.nil_sublist _))))
        have hb6 : b6 ∉ (Value.slice ao (playO c acts).length co).ownBlock.toList := fun hm => (hS.sub (.cons_cons _ (.cons_cons _ (List.nil_sublist _)))).apart2 hm (by simp [cellI])
        refine sv (yMove h10) ?_
        refine sv (yFn (.cons h6 .nil)) ?_
        refine scall Try.call74 (.cons rfl (.cons rfl .nil)) (c_DeleteOrd (p := fun o => decide (o.tm < start)) (cl := [.pointer (some ⟨b6, 0, none⟩)]) (hS.row (.slice ao (playO c acts).length co)) Try.call75 (fun x w _ e => c_jud1 (e.get (hS.at b6) hb6)) hpo) ?_
        rintro u w ⟨hu, hM⟩
        have hu2 : u = .slice ao (leftJ c acts start).length co := hu
        subst hu2
        clear hu
        replace hS := hS.app (v := .slice ao (playO c acts).length co) (v' := .slice ao (leftJ c acts start).length co) (hM.row _) hM.grown (.inl own_slice)
        clear hM hb6
        refine sv (yAsg rfl) ?_
        refine nil ?_
        show Code.wp _ _ _ _ _
        refine seq ?_
        refine cutK (fun f => f 5 = .pointer (some ⟨b5, 0, none⟩) ∧ f 6 = .pointer (some ⟨b6, 0, none⟩) ∧ f 8 = .slice none 0 0 ∧ f 10 = .slice ao (leftJ c acts start).length co ∧ True) ⟨h5, h6, h8, rfl, trivial⟩ ?_
        rintro f ⟨h5, h6, h8, h10, -⟩
        refine region ?_
        refine smkmap (Value.int .i64) hS ?_; clear hS; intro b41 w hS
        refine sv (yLdB h6 Try.isAgg3 (hS.at _) rfl) ?_
        refine sins (Value.int .i64) hS rfl rfl rfl Try.runUnderlying141 (keyInt Try.underlying3) ?_; clear hS; intro w hS
        refine sv (yMove rfl) ?_
        refine sv (yAsg rfl) ?_
        refine nil ?_
        show Code.wp _ _ _ _ _
        refine seq ?_
        refine seq ?_
        refine region ?_
        refine sv (fa29_1 h5) ?_
        refine sv (yLdB rfl Try.isAgg27 (hS.at _) rfl) ?_
        refine sv (yLen rfl Try.underlying27) ?_
        refine sv (yMove rfl) ?_
        refine nil ?_
        show Code.wp _ _ _ _ _
        refine block ?_
        replace hS := hS.nilrow 98 2
        refine loop (fun f w zz => ∃ (k : Nat) (al : Option Addr) (cl : Nat) (fv : Value) (M : LMp), f 11 = .map (some b41) ∧ f 45 = .slice ax s.steps.length cps ∧ f 46 = .int .i64 (s.steps.length : Int) ∧ f 47 = .int .i64 (k : Int) ∧ f 8 = fv ∧ f 10 = .slice al (judN s start (leftJ c acts start) k).left.length cl ∧ StX [] w0 w [rowI fv 98 2 ((judN s start (leftJ c acts start) k).flt).length (((judN s start (leftJ c acts start) k).flt).flatMap pC), mapI b41 (Value.int .i64) M, rowI (.slice al (judN s start (leftJ c acts start) k).left.length cl) 55 5 (judN s start (leftJ c acts start) k).left.length ((judN s start (leftJ c acts start) k).left.flatMap ordC)] ∧ (k ≤ s.steps.length) ∧ (MapJ start (judN s start (leftJ c acts start) k).done M) ∧ zz = s.steps.length - k) _ ⟨_, rfl, 0, ao, co, _, _, rfl, rfl, rfl, rfl, h8, h10, (hS.sub (.cons_cons _ (.cons_cons _ (.cons_cons _ (List.nil_sublist _))))), (Nat.zero_le _), (mapJ_0 start), rfl⟩ ?_
        clear hS
        rintro f w _ ⟨k, al, cl, fv, M, h11, h45, h46, h47, h8, h10, hS, hk, hM, rfl⟩
        refine seq ?_
        refine region ?_
        refine sv (yLss h47 h46) ?_
        refine nil ?_
        show Code.wp _ _ _ _ _
        refine seq ?_
        refine cond rfl (fun c48 => ?_) (fun c48 => ?_)
        ·
          simp only [Bool.and_eq_true, Bool.or_eq_true, Bool.and_eq_false_iff, Bool.or_eq_false_iff, decide_eq_true_eq, decide_eq_false_iff_not, Bool.not_eq_true, Bool.not_eq_false, Bool.not_not, Bool.not_eq_eq_eq_not, Bool.not_true, Bool.not_false, Bool.false_eq_true, Bool.true_eq_false, ne_eq, Decidable.not_not, not_false_eq_true, not_true_eq_false] at c48
          refine skip ?_
          show Code.wp _ _ _ _ _
          refine seq ?_
          refine block ?_
          refine seq ?_
          refine region ?_
          refine sv (yMove h47) ?_
          obtain ⟨x, hxq, hdq⟩ := drop_of (l := s.steps) (k := k) (by omega)
          obtain ⟨bq, oq, csq, haq, hlenq, hcsq, hRq⟩ := hels (k) (by omega)
          obtain rfl : x = s.steps[k] := (List.getElem?_eq_some_iff.1 hxq).2.symm
          generalize s.steps[k] = x at hxq hdq hRq
          obtain ⟨rfl, hxi⟩ := hRq
          have hsx := hok.steps k x hxq
          have hx1 := hsx.after
          have hx2 := hsx.most
          have hx3 := hsx.least
          have hjs := judN_succ (start := start) (l := leftJ c acts start) hxq
          have hjl := judN_left s start (leftJ c acts start) k
          have hjn := judN_len s start (leftJ c acts start) k
          have hjf := judN_flt s start (leftJ c acts start) k
          have hjd := judN_done (s := s) (start := start) hlt k
          refine sv (yIxa h45 haq h47 Try.runUnderlying27 Try.sizeOf89 (by omega) (by omega)) ?_
          refine sv (yLdA rfl Try.isAgg89 Try.sizeOf89 (hcsq.ext hS.ext) rfl) ?_
          refine salloc hS Try.zeroValue89 rfl ?_; clear hS; intro b13 w hS
          refine sv (yAsg rfl) ?_
          refine sst hS rfl rfl Try.sizeOf89 rfl rfl rfl rfl ?_; clear hS; intro w hS
          refine nil ?_
          show Code.wp _ _ _ _ _
          refine seq ?_
          refine cutK (fun f => f 11 = .map (some b41) ∧ f 45 = .slice ax s.steps.length cps ∧ f 46 = .int .i64 (s.steps.length : Int) ∧ f 47 = .int .i64 (k : Int) ∧ f 8 = fv ∧ f 10 = .slice al (judN s start (leftJ c acts start) k).left.length cl ∧ f 12 = .int .i64 (k : Int) ∧ f 13 = .pointer (some ⟨b13, 0, none⟩) ∧ True) ⟨h11, h45, h46, h47, h8, h10, rfl, rfl, trivial⟩ ?_
          rintro f ⟨h11, h45, h46, h47, h8, h10, h12, h13, -⟩
          refine region ?_
          refine sv (yMove h10) ?_
          refine sv (yFn (.cons h13 .nil)) ?_
          replace hS : StX [] w0 w (blk b13 (stpC x) 89 :: rowI fv 98 2 ((judN s start (leftJ c acts start) k).flt).length (((judN s start (leftJ c acts start) k).flt).flatMap pC) :: mapI b41 (Value.int .i64) M :: rowI (.slice al (judN s start (leftJ c acts start) k).left.length cl) 55 5 (judN s start (leftJ c acts start) k).left.length ((judN s start (leftJ c acts start) k).left.flatMap ordC) :: []) := hS
          refine scall Try.call76 (.cons rfl (.cons rfl .nil)) (c_IndexOrd (p := hitO x) (cl := [.pointer (some ⟨b13, 0, none⟩)]) (sl_ords (hS.row (.slice al (judN s start (leftJ c acts start) k).left.length cl)) rfl) Try.call77 (fun o w _ e => c_jud2 (e.get (hS.at b13)))) ?_
          rintro _ w ⟨rfl, hE⟩; replace hS := hS.step hE; clear hE
          refine sv (yAsg rfl) ?_
          refine nil ?_
          show Code.wp _ _ _ _ _
          refine seq ?_
          refine seq ?_
          refine region ?_
          refine sv (yMove rfl) ?_
          refine sv (yLss rfl rfl) ?_
          refine nil ?_
          show Code.wp _ _ _ _ _
          refine cond rfl (fun c56 => ?_) (fun c56 => ?_)
          ·
            simp only [Bool.and_eq_true, Bool.or_eq_true, Bool.and_eq_false_iff, Bool.or_eq_false_iff, decide_eq_true_eq, decide_eq_false_iff_not, Bool.not_eq_true, Bool.not_eq_false, Bool.not_not, Bool.not_eq_eq_eq_not, Bool.not_true, Bool.not_false, Bool.false_eq_true, Bool.true_eq_false, ne_eq, Decidable.not_not, not_false_eq_true, not_true_eq_false] at c56
            have hju := hjs.trans (judS_no c56)
            have hjl2 : (judN s start (leftJ c acts start) (k + 1)).left = (judN s start (leftJ c acts start) k).left := by rw [hju]
            have hjf2 : (judN s start (leftJ c acts start) (k + 1)).flt = (judN s start (leftJ c acts start) k).flt ++ [(207, (k : Int))] := by rw [hju]
            have hjd2 : (judN s start (leftJ c acts start) (k + 1)).done = (judN s start (leftJ c acts start) k).done ++ [none] := by rw [hju]
            refine seq ?_
            refine region ?_
            refine sv (yMove h8) ?_
            refine sv (yMove h12) ?_
            refine sv (yBuild Try.zeroValue98 rfl pl98 (.cons rfl rfl (.cons rfl rfl .nil)) rfl) ?_
            refine sbslice hS Try.underlying91 Try.sizeOf98 rfl Try.zeroValue98 rfl (.cons rfl rfl .nil) rfl ?_; clear hS; intro b60 w hS
            refine sapp (bytes := 16) (size := 2) (v := fv) (m := 1) hS rfl rfl Try.underlying91 ti98 rfl rfl rfl rfl (by decide) (blk_cells (hS.at _)) rfl rfl (by omega) (by omega) ?_; clear hS; intro v61 w hS
            refine sv (yAsg rfl) ?_
            refine nil ?_
            show Code.wp _ _ _ _ _
            refine exit ?_
            show Code.wp _ _ _ _ _
            refine region ?_
            refine sv (yAdd h47 rfl ⟨by omega, by omega⟩) ?_
            refine sv (yMove rfl) ?_
            refine nil ?_
            exact ⟨_, _, rfl, ⟨k + 1, al, cl, v61, M, h11, h45, h46, rfl, rfl, (by rw [hjl2]; exact h10), (by rw [hjl2, hjf2, List.flatMap_append, List.length_append]; exact hS.sub (.cons _ (.cons _ (List.Sublist.refl _)))), (by omega), (by rw [hjd2]; exact mapJ_none hM), rfl⟩, by omega⟩
          ·
            simp only [Bool.and_eq_true, Bool.or_eq_true, Bool.and_eq_false_iff, Bool.or_eq_false_iff, decide_eq_true_eq, decide_eq_false_iff_not, Bool.not_eq_true, Bool.not_eq_false, Bool.not_not, Bool.not_eq_eq_eq_not, Bool.not_true, Bool.not_false, Bool.false_eq_true, Bool.true_eq_false, ne_eq, Decidable.not_not, not_false_eq_true, not_true_eq_false] at c56
            obtain ⟨q, hq1, hqe, -, o, ho, -⟩ := (idxF_spec (hitO x) (judN s start (leftJ c acts start) k).left 0 (Int.le_refl 0)).resolve_left (fun h => by rw [h.1] at c56; exact c56 (by decide))
            rw [Int.zero_add] at hqe
            have hju := hjs.trans (judS_yes hqe ho)
            have hjl2 : (judN s start (leftJ c acts start) (k + 1)).left = (judN s start (leftJ c acts start) k).left.eraseIdx q := by rw [hju]
            have hjf3 : (judN s start (leftJ c acts start) (k + 1)).flt = (judN s start (leftJ c acts start) k).flt ++ fltJ k x o.tm (befJ start (judN s start (leftJ c acts start) k).done x.after) := by rw [hju]
            have hjd2 : (judN s start (leftJ c acts start) (k + 1)).done = (judN s start (leftJ c acts start) k).done ++ [some o.tm] := by rw [hju]
            clear hju hjs
            have hotm := hlt o (hjl.2 o (List.mem_of_getElem? ho))
            obtain ⟨gl, rfl, -⟩ := row_get (hS.row (.slice al (judN s start (leftJ c acts start) k).left.length cl)) (by omega)
            refine skip ?_
            show Code.wp _ _ _ _ _
            refine seq ?_
            refine cutK (fun f => f 11 = .map (some b41) ∧ f 45 = .slice ax s.steps.length cps ∧ f 46 = .int .i64 (s.steps.length : Int) ∧ f 47 = .int .i64 (k : Int) ∧ f 8 = fv ∧ f 10 = .slice (some ⟨gl, 0, none⟩) (judN s start (leftJ c acts start) k).left.length cl ∧ f 12 = .int .i64 (k : Int) ∧ f 13 = .pointer (some ⟨b13, 0, none⟩) ∧ f 14 = .int .i64 (idxF (hitO x) (judN s start (leftJ c acts start) k).left 0) ∧ True) ⟨h11, h45, h46, h47, h8, h10, h12, h13, rfl, trivial⟩ ?_
            rintro f ⟨h11, h45, h46, h47, h8, h10, h12, h13, h14, -⟩
            refine region ?_
            refine sv (yMove h10) ?_
            refine sv (yMove h14) ?_
            refine sv (yIx0 rfl (rfl.trans (congrArg (Value.int .i64) hqe)) Try.runUnderlying46 Try.sizeOf55 (by omega)) ?_
            refine sv (fa55_4 rfl) ?_
            refine sv (yLd rfl Try.isAgg3 ((flat_cells0 ordC_len (row_at (hS.row (.slice (some ⟨gl, 0, none⟩) (judN s start (leftJ c acts start) k).left.length cl)) rfl (by omega)) ho).at (j := 4) rfl)) ?_
            refine sv (yAsg rfl) ?_
            refine nil ?_
            show Code.wp _ _ _ _ _
            refine seq ?_
            refine region ?_
            refine sv (yMove h11) ?_
            refine sv (yMove h12) ?_
            refine sv (yMove rfl) ?_
            refine smapset (Value.int .i64) hS rfl rfl rfl Try.runUnderlying141 (keyInt Try.underlying3) ?_; clear hS; intro w hS
            refine nil ?_
            show Code.wp _ _ _ _ _
            refine seq ?_
            refine region ?_
            refine sv (yMove h10) ?_
            refine sv (yMove h14) ?_
            refine sv (yMove h14) ?_
            refine sv (yAdd rfl rfl ⟨by omega, by omega⟩) ?_
            refine scall Try.call78 (.cons rfl (.cons (rfl.trans (congrArg (Value.int .i64) hqe)) (.cons (rfl.trans (congrArg (Value.int .i64) (by omega))) .nil))) (c_Del1Ord (hS.row (.slice (some ⟨gl, 0, none⟩) (judN s start (leftJ c acts start) k).left.length cl)) (i := q) hq1 (by omega)) ?_
            rintro u w ⟨hu, hMM⟩
            have hu2 : u = .slice (some ⟨gl, 0, none⟩) ((judN s start (leftJ c acts start) k).left.eraseIdx q).length cl := hu
            subst hu2
            clear hu
            replace hS := hS.app (v := .slice (some ⟨gl, 0, none⟩) (judN s start (leftJ c acts start) k).left.length cl) (v' := .slice (some ⟨gl, 0, none⟩) ((judN s start (leftJ c acts start) k).left.eraseIdx q).length cl) (hMM.row _) hMM.grown (.inl own_slice)
            clear hMM
            refine sv (yAsg rfl) ?_
            refine nil ?_
            show Code.wp _ _ _ _ _
            refine seq ?_
            refine cutK (fun f => f 11 = .map (some b41) ∧ f 45 = .slice ax s.steps.length cps ∧ f 46 = .int .i64 (s.steps.length : Int) ∧ f 47 = .int .i64 (k : Int) ∧ f 8 = fv ∧ f 10 = .slice (some ⟨gl, 0, none⟩) ((judN s start (leftJ c acts start) k).left.eraseIdx q).length cl ∧ f 12 = .int .i64 (k : Int) ∧ f 13 = .pointer (some ⟨b13, 0, none⟩) ∧ f 15 = .int .i64 o.tm ∧ True) ⟨h11, h45, h46, h47, h8, rfl, h12, h13, rfl, trivial⟩ ?_
            rintro f ⟨h11, h45, h46, h47, h8, h10, h12, h13, h15, -⟩
            refine region ?_
            refine sv (yMove h11) ?_
            refine sv (fa89_2 h13) ?_
            refine sv (yLdB rfl Try.isAgg3 (hS.at _) rfl) ?_
            refine sv (lookJ (yLookOk (Value.int .i64) rfl rfl Try.runUnderlying141 (keyInt Try.underlying3) Try.zeroValue3 (hS.is _) rfl) (mapJ_in hM hjn hx1.2)) ?_
            refine sv (yMove rfl) ?_
            refine sv (yExt rfl rfl) ?_
            refine sv (yExt rfl rfl) ?_
            refine sv (yAsg rfl) ?_
            refine sv (yAsg rfl) ?_
            refine nil ?_
            show Code.wp _ _ _ _ _
            refine block ?_
            refine seq ?_
            refine cutK (fun f => f 11 = .map (some b41) ∧ f 45 = .slice ax s.steps.length cps ∧ f 46 = .int .i64 (s.steps.length : Int) ∧ f 47 = .int .i64 (k : Int) ∧ f 8 = fv ∧ f 10 = .slice (some ⟨gl, 0, none⟩) ((judN s start (leftJ c acts start) k).left.eraseIdx q).length cl ∧ f 12 = .int .i64 (k : Int) ∧ f 13 = .pointer (some ⟨b13, 0, none⟩) ∧ f 15 = .int .i64 o.tm ∧ f 16 = .int .i64 ((befJ start (judN s start (leftJ c acts start) k).done x.after).getD 0) ∧ f 17 = .bool (befJ start (judN s start (leftJ c acts start) k).done x.after).isSome ∧ True) ⟨h11, h45, h46, h47, h8, h10, h12, h13, h15, rfl, rfl, trivial⟩ ?_
            rintro f ⟨h11, h45, h46, h47, h8, h10, h12, h13, h15, h16, h17, -⟩
            refine region ?_
            have hbj := befJ_getD (a := x.after) hst2 hjd
            refine sv (yMove h17) ?_
            refine sv (yMove rfl) ?_
            refine sg rfl rfl rfl (fun g => (yMove h15)) (fun v85 g85 => ?_)
            refine sg rfl rfl rfl (fun g => (yMove h16)) (fun v86 g86 => ?_)
            refine sg rfl rfl rfl (fun g => (fa89_3 h13)) (fun v87 g87 => ?_)
            refine sg rfl rfl rfl (fun g => (yLdB (g87.1 g) Try.isAgg3 (hS.at _) rfl)) (fun v88 g88 => ?_)
            refine sg rfl rfl rfl (fun g => (yAdd (g86.1 g) (g88.1 g) ⟨by omega, by omega⟩)) (fun v89 g89 => ?_)
            refine sg rfl rfl rfl (fun g => (yLss (g85.1 g) (g89.1 g))) (fun v90 g90 => ?_)
            refine sv (yAnd rfl (fun hB => (g90.1 hB)) rfl) ?_
            refine sv (yAsg rfl) ?_
            refine nil ?_
            show Code.wp _ _ _ _ _
            refine cond rfl (fun c82 => ?_) (fun c82 => ?_)
            ·
              simp only [Bool.and_eq_true, Bool.or_eq_true, Bool.and_eq_false_iff, Bool.or_eq_false_iff, decide_eq_true_eq, decide_eq_false_iff_not, Bool.not_eq_true, Bool.not_eq_false, Bool.not_not, Bool.not_eq_eq_eq_not, Bool.not_true, Bool.not_false, Bool.false_eq_true, Bool.true_eq_false, ne_eq, Decidable.not_not, not_false_eq_true, not_true_eq_false] at c82
              have hjf2 := hjf3.trans (congrArg _ (fltJ_1 (i := k) c82.1 c82.2))
              refine region ?_
              refine sv (yMove h8) ?_
              refine sv (yMove h12) ?_
              refine sv (yBuild Try.zeroValue98 rfl pl98 (.cons rfl rfl (.cons rfl rfl .nil)) rfl) ?_
              refine sbslice hS Try.underlying91 Try.sizeOf98 rfl Try.zeroValue98 rfl (.cons rfl rfl .nil) rfl ?_; clear hS; intro b95 w hS
              refine sapp (bytes := 16) (size := 2) (v := fv) (m := 1) hS rfl rfl Try.underlying91 ti98 rfl rfl rfl rfl (by decide) (blk_cells (hS.at _)) rfl rfl (by omega) (by omega) ?_; clear hS; intro v96 w hS
              refine sv (yAsg rfl) ?_
              refine nil ?_
              show Code.wp _ _ _ _ _
              refine region ?_
              refine sv (yAdd h47 rfl ⟨by omega, by omega⟩) ?_
              refine sv (yMove rfl) ?_
              refine nil ?_
              exact ⟨_, _, rfl, ⟨k + 1, (some ⟨gl, 0, none⟩), cl, v96, setM M (k : Int) (.int .i64 o.tm), h11, h45, h46, rfl, rfl, (by rw [hjl2]; exact h10), (by rw [hjl2, hjf2, List.flatMap_append, List.length_append]; exact hS.sub (.cons _ (.cons _ (List.Sublist.refl _)))), (by omega), (by rw [hjd2]; exact mapJ_some hM (judN_len s start _ k)), rfl⟩, by omega⟩
            ·
              simp only [Bool.and_eq_true, Bool.or_eq_true, Bool.and_eq_false_iff, Bool.or_eq_false_iff, decide_eq_true_eq, decide_eq_false_iff_not, Bool.not_eq_true, Bool.not_eq_false, Bool.not_not, Bool.not_eq_eq_eq_not, Bool.not_true, Bool.not_false, Bool.false_eq_true, Bool.true_eq_false, ne_eq, Decidable.not_not, not_false_eq_true, not_true_eq_false] at c82
              refine seq ?_
              refine cutK (fun f => f 11 = .map (some b41) ∧ f 45 = .slice ax s.steps.length cps ∧ f 46 = .int .i64 (s.steps.length : Int) ∧ f 47 = .int .i64 (k : Int) ∧ f 8 = fv ∧ f 10 = .slice (some ⟨gl, 0, none⟩) ((judN s start (leftJ c acts start) k).left.eraseIdx q).length cl ∧ f 12 = .int .i64 (k : Int) ∧ f 13 = .pointer (some ⟨b13, 0, none⟩) ∧ f 15 = .int .i64 o.tm ∧ f 16 = .int .i64 ((befJ start (judN s start (leftJ c acts start) k).done x.after).getD 0) ∧ f 17 = .bool (befJ start (judN s start (leftJ c acts start) k).done x.after).isSome ∧ True) ⟨h11, h45, h46, h47, h8, h10, h12, h13, h15, h16, h17, trivial⟩ ?_
              rintro f ⟨h11, h45, h46, h47, h8, h10, h12, h13, h15, h16, h17, -⟩
              refine region ?_
              refine sv (yMove h17) ?_
              refine sv (yMove rfl) ?_
              refine sg rfl rfl rfl (fun g => (yMove h15)) (fun v100 g100 => ?_)
              refine sg rfl rfl rfl (fun g => (yMove h16)) (fun v101 g101 => ?_)
              refine sg rfl rfl rfl (fun g => (fa89_4 h13)) (fun v102 g102 => ?_)
              refine sg rfl rfl rfl (fun g => (yLdB (g102.1 g) Try.isAgg3 (hS.at _) rfl)) (fun v103 g103 => ?_)
              refine sg rfl rfl rfl (fun g => (yAdd (g101.1 g) (g103.1 g) ⟨by omega, by omega⟩)) (fun v104 g104 => ?_)
              refine sg rfl rfl rfl (fun g => (yGtr (g100.1 g) (g104.1 g))) (fun v105 g105 => ?_)
              refine sv (yAnd rfl (fun hB => (g105.1 hB)) rfl) ?_
              refine sv (yAsg rfl) ?_
              refine nil ?_
              show Code.wp _ _ _ _ _
              refine cond rfl (fun c97 => ?_) (fun c97 => ?_)
              ·
                simp only [Bool.and_eq_true, Bool.or_eq_true, Bool.and_eq_false_iff, Bool.or_eq_false_iff, decide_eq_true_eq, decide_eq_false_iff_not, Bool.not_eq_true, Bool.not_eq_false, Bool.not_not, Bool.not_eq_eq_eq_not, Bool.not_true, Bool.not_false, Bool.false_eq_true, Bool.true_eq_false, ne_eq, Decidable.not_not, not_false_eq_true, not_true_eq_false] at c97
                have hjf2 := hjf3.trans (congrArg _ (fltJ_2 (i := k) c97.1 (fltJ_or c82 c97.1) c97.2))
                refine region ?_
                refine sv (yMove h8) ?_
                refine sv (yMove h12) ?_
                refine sv (yBuild Try.zeroValue98 rfl pl98 (.cons rfl rfl (.cons rfl rfl .nil)) rfl) ?_
                refine sbslice hS Try.underlying91 Try.sizeOf98 rfl Try.zeroValue98 rfl (.cons rfl rfl .nil) rfl ?_; clear hS; intro b110 w hS
                refine sapp (bytes := 16) (size := 2) (v := fv) (m := 1) hS rfl rfl Try.underlying91 ti98 rfl rfl rfl rfl (by decide) (blk_cells (hS.at _)) rfl rfl (by omega) (by omega) ?_; clear hS; intro v111 w hS
                refine sv (yAsg rfl) ?_
                refine nil ?_
                show Code.wp _ _ _ _ _
                refine region ?_
                refine sv (yAdd h47 rfl ⟨by omega, by omega⟩) ?_
                refine sv (yMove rfl) ?_
                refine nil ?_
                exact ⟨_, _, rfl, ⟨k + 1, (some ⟨gl, 0, none⟩), cl, v111, setM M (k : Int) (.int .i64 o.tm), h11, h45, h46, rfl, rfl, (by rw [hjl2]; exact h10), (by rw [hjl2, hjf2, List.flatMap_append, List.length_append]; exact hS.sub (.cons _ (.cons _ (List.Sublist.refl _)))), (by omega), (by rw [hjd2]; exact mapJ_some hM (judN_len s start _ k)), rfl⟩, by omega⟩
              ·
                simp only [Bool.and_eq_true, Bool.or_eq_true, Bool.and_eq_false_iff, Bool.or_eq_false_iff, decide_eq_true_eq, decide_eq_false_iff_not, Bool.not_eq_true, Bool.not_eq_false, Bool.not_not, Bool.not_eq_eq_eq_not, Bool.not_true, Bool.not_false, Bool.false_eq_true, Bool.true_eq_false, ne_eq, Decidable.not_not, not_false_eq_true, not_true_eq_false] at c97
                have hjf2 := (hjf3.trans (congrArg _ (fltJ_0 (i := k) c82 c97))).trans (List.append_nil _)
                refine skip ?_
                show Code.wp _ _ _ _ _
                refine region ?_
                refine sv (yAdd h47 rfl ⟨by omega, by omega⟩) ?_
                refine sv (yMove rfl) ?_
                refine nil ?_
                exact ⟨_, _, rfl, ⟨k + 1, (some ⟨gl, 0, none⟩), cl, fv, setM M (k : Int) (.int .i64 o.tm), h11, h45, h46, rfl, h8, (by rw [hjl2]; exact h10), (by rw [hjl2, hjf2]; exact hS.sub (.cons _ (List.Sublist.refl _))), (by omega), (by rw [hjd2]; exact mapJ_some hM (judN_len s start _ k)), rfl⟩, by omega⟩
        ·
          simp only [Bool.and_eq_true, Bool.or_eq_true, Bool.and_eq_false_iff, Bool.or_eq_false_iff, decide_eq_true_eq, decide_eq_false_iff_not, Bool.not_eq_true, Bool.not_eq_false, Bool.not_not, Bool.not_eq_eq_eq_not, Bool.not_true, Bool.not_false, Bool.false_eq_true, Bool.true_eq_false, ne_eq, Decidable.not_not, not_false_eq_true, not_true_eq_false] at c48
          refine exit ?_
          show Code.wp _ _ _ _ _
          refine seq ?_
          refine region ?_
          refine sv (yMove h8) ?_
          refine sv (yAsg rfl) ?_
          refine sv (yAsg rfl) ?_
          refine nil ?_
          show Code.wp _ _ _ _ _
          refine wp_ret ?_
          refine retQ (res2 rfl rfl rfl) ?_
          obtain rfl : k = s.steps.length := by omega
          exact ⟨fv, by (rw [hfin.1]; try rfl), by rw [hfin.2]; exact hS.sub (.cons_cons _ (List.nil_sublist _))⟩
end Go.Proofs.Ytghgnofilbnbaaa
/- part C27 -/
namespace Bx
open Go Go.RowKit
theorem ex_on1 : onF exC 1 299 = (true, 0) := by decide +kernel
theorem ex_on2 : onF exC 1 300 = (false, 0) := by decide +kernel
theorem ex_able1 : ableF exC 1 100 = (0, 1, 0) := by decide +kernel
theorem ex_able2 : ableF exC 1 350 = (0, 2, 0) := by decide +kernel
theorem ex_able3 : ableF exC 1 700 = (0, 0, 9) := by decide +kernel
theorem ex_e0 : playE exC exA = 0 := ex_play.1
theorem ex_ords : playO exC exA = [⟨2, 4, 1, 7, 22⟩] := by kernel_rfl
theorem ex_keys : playK exC exA = [0, 0] := by decide +kernel
theorem ex_scr : (scriptF exC exS).2 = 0 := by decide +kernel
theorem ex_win : winF exC exS = [(0, 30), (5, 50), (65, 140)] := by decide +kernel
theorem ex_plan0 : planE exC exS 0 = 0 ∧ planL exC exS 0 = [0, 5, 65] := by decide +kernel
theorem ex_judge : judE exC exS 0 exA = 0 ∧ judL exC exS 0 exA = [(207, 1), (207, 2)] := by decide +kernel
end Bx
/- part Ck44 -/
namespace Go.Proofs.Ytghgnofilbnbaaa
open Go Bx
set_option maxHeartbeats 8000000 in
/-- barrage/barragelaw10.CrewKnown -/
theorem w_CrewKnown {w0 : World} : CV Try.prog 14 #[] w0 (.bool true) := by
  refine enter Try.func14 rfl Try.ntmps14 rfl ?_
  have hS := St.start w0
  refine seq ?_
  refine region ?_
  refine sv (yAsg rfl) ?_
  refine nil ?_
  show Code.wp _ _ _ _ _
  refine seq ?_
  refine region ?_
  refine scall Try.call39 .nil c_Example ?_
  rintro _ w1 ⟨cs1, rfl, hC1, hE⟩; have hE0 := hS.ext.trans hE; clear hS hE
  obtain ⟨ov1, kv1, nv1, rfl, hso1, hsk1, hsn1, -⟩ := id hC1
  obtain ⟨a1, q1, rfl, -⟩ := id hso1
  obtain ⟨a2, q2, rfl, -⟩ := id hsk1
  obtain ⟨a3, q3, rfl, -⟩ := id hsn1
  have hS : StX [] w1 w1 [] := St.start w1
  refine salloc hS Try.zeroValue26 rfl ?_; clear hS; intro b1 w hS
  refine sst hS rfl rfl Try.sizeOf26 rfl rfl rfl rfl ?_; clear hS; intro w hS
  refine nil ?_
  show Code.wp _ _ _ _ _
  refine seq ?_
  refine cutK (fun f => f 1 = .pointer (some ⟨b1, 0, none⟩) ∧ True) ⟨rfl, trivial⟩ ?_
  rintro f ⟨h1, -⟩
  refine region ?_
  replace hS : StX [] w1 w (blk b1 [.slice a1 exC.ops.length q1, .slice a2 exC.keys.length q2, .slice a3 exC.kinds.length q3] 26 :: []) := hS
  refine sv (yLdBA h1 Try.isAgg26 Try.sizeOf26 (hS.at _) rfl rfl) ?_
  refine scall Try.call33 (.cons rfl (.cons rfl (.cons rfl .nil))) (c_On (hC1.ext hS.ext) (who := 1) (m := 299)) ?_
  rw [ex_on1]
  rintro _ w ⟨rfl, hE⟩; replace hS := hS.step hE; clear hE
  refine sv (yMove rfl) ?_
  refine sv (yExt rfl rfl) ?_
  refine sv (yExt rfl rfl) ?_
  refine sv (yAsg rfl) ?_
  refine sv (yAsg rfl) ?_
  refine nil ?_
  show Code.wp _ _ _ _ _
  refine seq ?_
  refine cutK (fun f => f 1 = .pointer (some ⟨b1, 0, none⟩) ∧ f 2 = .bool true ∧ f 3 = .int .i64 0 ∧ True) ⟨h1, rfl, rfl, trivial⟩ ?_
  rintro f ⟨h1, h2, h3, -⟩
  refine region ?_
  refine sv (yLdBA h1 Try.isAgg26 Try.sizeOf26 (hS.at _) rfl rfl) ?_
  refine scall Try.call33 (.cons rfl (.cons rfl (.cons rfl .nil))) (c_On (hC1.ext hS.ext) (who := 1) (m := 300)) ?_
  rw [ex_on2]
  rintro _ w ⟨rfl, hE⟩; replace hS := hS.step hE; clear hE
  refine sv (yMove rfl) ?_
  refine sv (yExt rfl rfl) ?_
  refine sv (yExt rfl rfl) ?_
  refine sv (yAsg rfl) ?_
  refine sv (yAsg rfl) ?_
  refine nil ?_
  show Code.wp _ _ _ _ _
  refine seq ?_
  refine cutK (fun f => f 1 = .pointer (some ⟨b1, 0, none⟩) ∧ f 2 = .bool true ∧ f 3 = .int .i64 0 ∧ f 4 = .bool false ∧ f 5 = .int .i64 0 ∧ True) ⟨h1, h2, h3, rfl, rfl, trivial⟩ ?_
  rintro f ⟨h1, h2, h3, h4, h5, -⟩
  refine region ?_
  refine sv (yLdBA h1 Try.isAgg26 Try.sizeOf26 (hS.at _) rfl rfl) ?_
  refine scall Try.call29 (.cons rfl (.cons rfl (.cons rfl .nil))) (c_Able (hC1.ext hS.ext)) ?_
  rw [ex_able1]
  rintro _ w ⟨rfl, hE⟩; replace hS := hS.step hE; clear hE
  refine sv (yMove rfl) ?_
  refine sv (yExt rfl rfl) ?_
  refine sv (yExt rfl rfl) ?_
  refine sv (yExt rfl rfl) ?_
  refine sv (yAsg rfl) ?_
  refine sv (yAsg rfl) ?_
  refine sv (yAsg rfl) ?_
  refine nil ?_
  show Code.wp _ _ _ _ _
  refine seq ?_
  refine cutK (fun f => f 1 = .pointer (some ⟨b1, 0, none⟩) ∧ f 2 = .bool true ∧ f 3 = .int .i64 0 ∧ f 4 = .bool false ∧ f 5 = .int .i64 0 ∧ f 6 = .int .i64 0 ∧ f 7 = .int .i64 1 ∧ f 8 = .int .i64 0 ∧ True) ⟨h1, h2, h3, h4, h5, rfl, rfl, rfl, trivial⟩ ?_
  rintro f ⟨h1, h2, h3, h4, h5, h6, h7, h8, -⟩
  refine region ?_
  refine sv (yLdBA h1 Try.isAgg26 Try.sizeOf26 (hS.at _) rfl rfl) ?_
  refine scall Try.call29 (.cons rfl (.cons rfl (.cons rfl .nil))) (c_Able (hC1.ext hS.ext)) ?_
  rw [ex_able2]
  rintro _ w ⟨rfl, hE⟩; replace hS := hS.step hE; clear hE
  refine sv (yMove rfl) ?_
  refine sv (yExt rfl rfl) ?_
  refine sv (yExt rfl rfl) ?_
  refine sv (yExt rfl rfl) ?_
  refine sv (yAsg rfl) ?_
  refine sv (yAsg rfl) ?_
  refine sv (yAsg rfl) ?_
  refine nil ?_
  show Code.wp _ _ _ _ _
  refine seq ?_
  refine cutK (fun f => f 1 = .pointer (some ⟨b1, 0, none⟩) ∧ f 2 = .bool true ∧ f 3 = .int .i64 0 ∧ f 4 = .bool false ∧ f 5 = .int .i64 0 ∧ f 6 = .int .i64 0 ∧ f 7 = .int .i64 1 ∧ f 8 = .int .i64 0 ∧ f 9 = .int .i64 0 ∧ f 10 = .int .i64 2 ∧ f 11 = .int .i64 0 ∧ True) ⟨h1, h2, h3, h4, h5, h6, h7, h8, rfl, rfl, rfl, trivial⟩ ?_
  rintro f ⟨h1, h2, h3, h4, h5, h6, h7, h8, h9, h10, h11, -⟩
  refine region ?_
  refine sv (yLdBA h1 Try.isAgg26 Try.sizeOf26 (hS.at _) rfl rfl) ?_
  refine scall Try.call29 (.cons rfl (.cons rfl (.cons rfl .nil))) (c_Able (hC1.ext hS.ext)) ?_
  rw [ex_able3]
  rintro _ w ⟨rfl, hE⟩; replace hS := hS.step hE; clear hE
  refine sv (yMove rfl) ?_
  refine sv (yExt rfl rfl) ?_
  refine sv (yExt rfl rfl) ?_
  refine sv (yExt rfl rfl) ?_
  refine sv (yAsg rfl) ?_
  refine sv (yAsg rfl) ?_
  refine sv (yAsg rfl) ?_
  refine nil ?_
  show Code.wp _ _ _ _ _
  refine seq ?_
  refine seq ?_
  refine cutK (fun f => f 1 = .pointer (some ⟨b1, 0, none⟩) ∧ f 2 = .bool true ∧ f 3 = .int .i64 0 ∧ f 4 = .bool false ∧ f 5 = .int .i64 0 ∧ f 6 = .int .i64 0 ∧ f 7 = .int .i64 1 ∧ f 8 = .int .i64 0 ∧ f 9 = .int .i64 0 ∧ f 10 = .int .i64 2 ∧ f 11 = .int .i64 0 ∧ f 14 = .int .i64 9 ∧ True) ⟨h1, h2, h3, h4, h5, h6, h7, h8, h9, h10, h11, rfl, trivial⟩ ?_
  rintro f ⟨h1, h2, h3, h4, h5, h6, h7, h8, h9, h10, h11, h14, -⟩
  refine region ?_
  refine sv (yMove h3) ?_
  refine sv (yNeq rfl rfl) ?_
  refine sv (yMove rfl) ?_
  refine ungo rfl rfl rfl ?_
  refine sv (yMove h5) ?_
  refine ungo rfl rfl rfl ?_
  refine sv (yNeq rfl rfl) ?_
  refine sv (yOr rfl rfl (fun hB => rfl)) ?_
  refine sv (yMove rfl) ?_
  refine ungo rfl rfl rfl ?_
  refine sv (yMove h8) ?_
  refine ungo rfl rfl rfl ?_
  refine sv (yNeq rfl rfl) ?_
  refine sv (yOr rfl rfl (fun hB => rfl)) ?_
  refine sv (yMove rfl) ?_
  refine ungo rfl rfl rfl ?_
  refine sv (yMove h11) ?_
  refine ungo rfl rfl rfl ?_
  refine sv (yNeq rfl rfl) ?_
  refine sv (yOr rfl rfl (fun hB => rfl)) ?_
  refine sv (yMove rfl) ?_
  refine ungo rfl rfl rfl ?_
  refine sv (yMove h14) ?_
  refine ungo rfl rfl rfl ?_
  refine sv (yNeq rfl rfl) ?_
  refine sv (yOr rfl rfl (fun hB => rfl)) ?_
  refine sv (yMove rfl) ?_
  refine ungo rfl rfl rfl ?_
  refine sv (yMove h2) ?_
  refine ungo rfl rfl rfl ?_
  refine sv (yNot rfl) ?_
  refine sv (yOr rfl rfl (fun hB => rfl)) ?_
  refine sv (yMove rfl) ?_
  refine ungo rfl rfl rfl ?_
  refine sv (yMove h4) ?_
  refine sv (yOr rfl rfl (fun hB => rfl)) ?_
  refine sv (yMove rfl) ?_
  refine ungo rfl rfl rfl ?_
  refine sv (yMove h6) ?_
  refine ungo rfl rfl rfl ?_
  refine sv (yNeq rfl rfl) ?_
  refine sv (yOr rfl rfl (fun hB => rfl)) ?_
  refine sv (yMove rfl) ?_
  refine ungo rfl rfl rfl ?_
  refine sv (yMove h7) ?_
  refine ungo rfl rfl rfl ?_
  refine sv (yNeq rfl rfl) ?_
  refine sv (yOr rfl rfl (fun hB => rfl)) ?_
  refine sv (yMove rfl) ?_
  refine ungo rfl rfl rfl ?_
  refine sv (yMove h9) ?_
  refine ungo rfl rfl rfl ?_
  refine sv (yNeq rfl rfl) ?_
  refine sv (yOr rfl rfl (fun hB => rfl)) ?_
  refine sv (yMove rfl) ?_
  refine ungo rfl rfl rfl ?_
  refine sv (yMove h10) ?_
  refine ungo rfl rfl rfl ?_
  refine sv (yNeq rfl rfl) ?_
  refine sv (yOr rfl rfl (fun hB => rfl)) ?_
  refine nil ?_
  show Code.wp _ _ _ _ _
  refine cond rfl (fun c89 => ?_) (fun c89 => ?_)
  ·
    skip
    exact absurd c89 (by decide)
  ·
    skip
    refine skip ?_
    show Code.wp _ _ _ _ _
    refine seq ?_
    refine cutK (fun f => f 1 = .pointer (some ⟨b1, 0, none⟩) ∧ True) ⟨h1, trivial⟩ ?_
    rintro f ⟨h1, -⟩
    refine region_mix (fun w => w.heap[b1]? = some (.cells ([.slice a1 exC.ops.length q1, .slice a2 exC.keys.length q2, .slice a3 exC.kinds.length q3] : List Value).toArray 26 (0, 0))) 8 mixed hS ?_
    clear hS; intro w hS
    refine f_step 0 (by kernel_rfl) rfl (fun c a a' w h => by obtain ⟨_, v, hv, _⟩ := h; cases hv) (hS.at b1) (fun w hS => (yLdBA h1 Try.isAgg26 Try.sizeOf26 hS rfl rfl)) ?_
    show wpA _ _ _ _ _ _ _ _ _ _
    refine a_step (i := 1) (is := []) (by kernel_rfl) ⟨?_, trivial⟩
    refine ⟨_, rfl, ?_⟩
    refine scall Try.call40 .nil c_Acts ?_
    rintro av1 w ⟨hA1, hE⟩; replace hS := hS.step hE; clear hE
    refine nil ?_
    refine ⟨fun _ => (hS.at b1), ?_⟩
    show wpA _ _ _ _ _ _ _ _ _ _
    show wpA _ _ _ _ _ _ _ _ _ _
    refine a_step (i := 2) (is := []) (by kernel_rfl) ⟨?_, trivial⟩
    refine ⟨_, rfl, ?_⟩
    refine scall Try.call19 (.cons rfl (.cons rfl .nil)) (c_Orders (hC1.ext hS.ext) hA1) ?_
    rw [ex_e0, ex_ords]
    rintro _ w ⟨ov2, rfl, hM⟩; replace hS := hS.call1 hM; clear hM
    refine nil ?_
    refine ⟨fun _ => (hS.at b1), ?_⟩
    show wpA _ _ _ _ _ _ _ _ _ _
    refine f_step 3 (by kernel_rfl) rfl (fun c a a' w h => by obtain ⟨_, v, hv, _⟩ := h; cases hv) (hS.at b1) (fun w hS => (yMove rfl)) ?_
    refine f_step 4 (by kernel_rfl) rfl (fun c a a' w h => by obtain ⟨_, v, hv, _⟩ := h; cases hv) (hS.at b1) (fun w hS => (yExt rfl rfl)) ?_
    refine f_step 5 (by kernel_rfl) rfl (fun c a a' w h => by obtain ⟨_, v, hv, _⟩ := h; cases hv) (hS.at b1) (fun w hS => (yExt rfl rfl)) ?_
    refine f_step 6 (by kernel_rfl) rfl (fun c a a' w h => by obtain ⟨_, v, hv, _⟩ := h; cases hv) (hS.at b1) (fun w hS => (yAsg rfl)) ?_
    refine f_step 7 (by kernel_rfl) rfl (fun c a a' w h => by obtain ⟨_, v, hv, _⟩ := h; cases hv) (hS.at b1) (fun w hS => (yAsg rfl)) ?_
    refine a_end (by kernel_rfl) ?_
    show Code.wp _ _ _ _ _
    refine seq ?_
    refine cutK (fun f => f 1 = .pointer (some ⟨b1, 0, none⟩) ∧ f 15 = ov2 ∧ f 3 = .int .i64 0 ∧ True) ⟨h1, rfl, rfl, trivial⟩ ?_
    rintro f ⟨h1, h15, h3, -⟩
    refine region_mix (fun w => w.heap[b1]? = some (.cells ([.slice a1 exC.ops.length q1, .slice a2 exC.keys.length q2, .slice a3 exC.kinds.length q3] : List Value).toArray 26 (0, 0))) 8 mixed hS ?_
    clear hS; intro w hS
    refine f_step 0 (by kernel_rfl) rfl (fun c a a' w h => by obtain ⟨_, v, hv, _⟩ := h; cases hv) (hS.at b1) (fun w hS => (yLdBA h1 Try.isAgg26 Try.sizeOf26 hS rfl rfl)) ?_
    show wpA _ _ _ _ _ _ _ _ _ _
    refine a_step (i := 1) (is := []) (by kernel_rfl) ⟨?_, trivial⟩
    refine ⟨_, rfl, ?_⟩
    refine scall Try.call40 .nil c_Acts ?_
    rintro av2 w ⟨hA2, hE⟩; replace hS := hS.step hE; clear hE
    refine nil ?_
    refine ⟨fun _ => (hS.at b1), ?_⟩
    show wpA _ _ _ _ _ _ _ _ _ _
    show wpA _ _ _ _ _ _ _ _ _ _
    refine a_step (i := 2) (is := []) (by kernel_rfl) ⟨?_, trivial⟩
    refine ⟨_, rfl, ?_⟩
    refine scall Try.call30 (.cons rfl (.cons rfl .nil)) (c_Keys (hC1.ext hS.ext) hA2) ?_
    rw [ex_e0, ex_keys]
    rintro _ w ⟨kv2, rfl, hM⟩; replace hS := hS.call1 hM; clear hM
    refine nil ?_
    refine ⟨fun _ => (hS.at b1), ?_⟩
    show wpA _ _ _ _ _ _ _ _ _ _
    refine f_step 3 (by kernel_rfl) rfl (fun c a a' w h => by obtain ⟨_, v, hv, _⟩ := h; cases hv) (hS.at b1) (fun w hS => (yMove rfl)) ?_
    refine f_step 4 (by kernel_rfl) rfl (fun c a a' w h => by obtain ⟨_, v, hv, _⟩ := h; cases hv) (hS.at b1) (fun w hS => (yExt rfl rfl)) ?_
    refine f_step 5 (by kernel_rfl) rfl (fun c a a' w h => by obtain ⟨_, v, hv, _⟩ := h; cases hv) (hS.at b1) (fun w hS => (yExt rfl rfl)) ?_
    refine f_step 6 (by kernel_rfl) rfl (fun c a a' w h => by obtain ⟨_, v, hv, _⟩ := h; cases hv) (hS.at b1) (fun w hS => (yAsg rfl)) ?_
    refine f_step 7 (by kernel_rfl) rfl (fun c a a' w h => by obtain ⟨_, v, hv, _⟩ := h; cases hv) (hS.at b1) (fun w hS => (yAsg rfl)) ?_
    refine a_end (by kernel_rfl) ?_
    show Code.wp _ _ _ _ _
    refine seq ?_
    refine cutK (fun f => f 1 = .pointer (some ⟨b1, 0, none⟩) ∧ f 15 = ov2 ∧ f 3 = .int .i64 0 ∧ f 16 = kv2 ∧ f 5 = .int .i64 0 ∧ True) ⟨h1, h15, h3, rfl, rfl, trivial⟩ ?_
    rintro f ⟨h1, h15, h3, h16, h5, -⟩
    refine region_mix (fun w => w.heap[b1]? = some (.cells ([.slice a1 exC.ops.length q1, .slice a2 exC.keys.length q2, .slice a3 exC.kinds.length q3] : List Value).toArray 26 (0, 0))) 8 mixed hS ?_
    clear hS; intro w hS
    refine f_step 0 (by kernel_rfl) rfl (fun c a a' w h => by obtain ⟨_, v, hv, _⟩ := h; cases hv) (hS.at b1) (fun w hS => (yLdBA h1 Try.isAgg26 Try.sizeOf26 hS rfl rfl)) ?_
    show wpA _ _ _ _ _ _ _ _ _ _
    refine a_step (i := 1) (is := []) (by kernel_rfl) ⟨?_, trivial⟩
    refine ⟨_, rfl, ?_⟩
    refine scall Try.call41 .nil c_Drill ?_
    rintro _ w ⟨sc1, rfl, hD1, hE⟩; replace hS := hS.step hE; clear hE
    refine nil ?_
    refine ⟨fun _ => (hS.at b1), ?_⟩
    show wpA _ _ _ _ _ _ _ _ _ _
    show wpA _ _ _ _ _ _ _ _ _ _
    refine a_step (i := 2) (is := []) (by kernel_rfl) ⟨?_, trivial⟩
    refine ⟨_, rfl, ?_⟩
    refine scall Try.call25 (.cons rfl (.cons rfl .nil)) (c_Windows (hC1.ext hS.ext) hD1) ?_
    rw [ex_scr, ex_win]
    rintro _ w ⟨wv2, rfl, hM⟩; replace hS := hS.call1 hM; clear hM
    refine nil ?_
    refine ⟨fun _ => (hS.at b1), ?_⟩
    show wpA _ _ _ _ _ _ _ _ _ _
    refine f_step 3 (by kernel_rfl) rfl (fun c a a' w h => by obtain ⟨_, v, hv, _⟩ := h; cases hv) (hS.at b1) (fun w hS => (yMove rfl)) ?_
    refine f_step 4 (by kernel_rfl) rfl (fun c a a' w h => by obtain ⟨_, v, hv, _⟩ := h; cases hv) (hS.at b1) (fun w hS => (yExt rfl rfl)) ?_
    refine f_step 5 (by kernel_rfl) rfl (fun c a a' w h => by obtain ⟨_, v, hv, _⟩ := h; cases hv) (hS.at b1) (fun w hS => (yExt rfl rfl)) ?_
    refine f_step 6 (by kernel_rfl) rfl (fun c a a' w h => by obtain ⟨_, v, hv, _⟩ := h; cases hv) (hS.at b1) (fun w hS => (yAsg rfl)) ?_
    refine f_step 7 (by kernel_rfl) rfl (fun c a a' w h => by obtain ⟨_, v, hv, _⟩ := h; cases hv) (hS.at b1) (fun w hS => (yAsg rfl)) ?_
    refine a_end (by kernel_rfl) ?_
    show Code.wp _ _ _ _ _
    refine seq ?_
    refine cutK (fun f => f 1 = .pointer (some ⟨b1, 0, none⟩) ∧ f 15 = ov2 ∧ f 3 = .int .i64 0 ∧ f 16 = kv2 ∧ f 5 = .int .i64 0 ∧ f 17 = wv2 ∧ f 8 = .int .i64 0 ∧ True) ⟨h1, h15, h3, h16, h5, rfl, rfl, trivial⟩ ?_
    rintro f ⟨h1, h15, h3, h16, h5, h17, h8, -⟩
    refine region_mix (fun w => w.heap[b1]? = some (.cells ([.slice a1 exC.ops.length q1, .slice a2 exC.keys.length q2, .slice a3 exC.kinds.length q3] : List Value).toArray 26 (0, 0))) 8 mixed hS ?_
    clear hS; intro w hS
    refine f_step 0 (by kernel_rfl) rfl (fun c a a' w h => by obtain ⟨_, v, hv, _⟩ := h; cases hv) (hS.at b1) (fun w hS => (yLdBA h1 Try.isAgg26 Try.sizeOf26 hS rfl rfl)) ?_
    show wpA _ _ _ _ _ _ _ _ _ _
    refine a_step (i := 1) (is := []) (by kernel_rfl) ⟨?_, trivial⟩
    refine ⟨_, rfl, ?_⟩
    refine scall Try.call41 .nil c_Drill ?_
    rintro _ w ⟨sc2, rfl, hD2, hE⟩; replace hS := hS.step hE; clear hE
    refine nil ?_
    refine ⟨fun _ => (hS.at b1), ?_⟩
    show wpA _ _ _ _ _ _ _ _ _ _
    show wpA _ _ _ _ _ _ _ _ _ _
    refine a_step (i := 2) (is := []) (by kernel_rfl) ⟨?_, trivial⟩
    refine ⟨_, rfl, ?_⟩
    refine scall Try.call15 (.cons rfl (.cons rfl (.cons rfl .nil))) (c_Plan (hC1.ext hS.ext) hD2 (start := 0)) ?_
    rw [ex_plan0.1, ex_plan0.2]
    rintro _ w ⟨pv2, rfl, hM⟩; replace hS := hS.call1 hM; clear hM
    refine nil ?_
    refine ⟨fun _ => (hS.at b1), ?_⟩
    show wpA _ _ _ _ _ _ _ _ _ _
    refine f_step 3 (by kernel_rfl) rfl (fun c a a' w h => by obtain ⟨_, v, hv, _⟩ := h; cases hv) (hS.at b1) (fun w hS => (yMove rfl)) ?_
    refine f_step 4 (by kernel_rfl) rfl (fun c a a' w h => by obtain ⟨_, v, hv, _⟩ := h; cases hv) (hS.at b1) (fun w hS => (yExt rfl rfl)) ?_
    refine f_step 5 (by kernel_rfl) rfl (fun c a a' w h => by obtain ⟨_, v, hv, _⟩ := h; cases hv) (hS.at b1) (fun w hS => (yExt rfl rfl)) ?_
    refine f_step 6 (by kernel_rfl) rfl (fun c a a' w h => by obtain ⟨_, v, hv, _⟩ := h; cases hv) (hS.at b1) (fun w hS => (yAsg rfl)) ?_
    refine f_step 7 (by kernel_rfl) rfl (fun c a a' w h => by obtain ⟨_, v, hv, _⟩ := h; cases hv) (hS.at b1) (fun w hS => (yAsg rfl)) ?_
    refine a_end (by kernel_rfl) ?_
    show Code.wp _ _ _ _ _
    refine seq ?_
    refine seq ?_
    refine cutK (fun f => f 1 = .pointer (some ⟨b1, 0, none⟩) ∧ f 15 = ov2 ∧ f 3 = .int .i64 0 ∧ f 16 = kv2 ∧ f 5 = .int .i64 0 ∧ f 17 = wv2 ∧ f 8 = .int .i64 0 ∧ f 18 = pv2 ∧ f 11 = .int .i64 0 ∧ True) ⟨h1, h15, h3, h16, h5, h17, h8, rfl, rfl, trivial⟩ ?_
    rintro f ⟨h1, h15, h3, h16, h5, h17, h8, h18, h11, -⟩
    refine region ?_
    refine sv (yMove h3) ?_
    refine sv (yNeq rfl rfl) ?_
    refine sv (yMove rfl) ?_
    refine ungo rfl rfl rfl ?_
    refine sv (yMove h5) ?_
    refine ungo rfl rfl rfl ?_
    refine sv (yNeq rfl rfl) ?_
    refine sv (yOr rfl rfl (fun hB => rfl)) ?_
    refine sv (yMove rfl) ?_
    refine ungo rfl rfl rfl ?_
    refine sv (yMove h8) ?_
    refine ungo rfl rfl rfl ?_
    refine sv (yNeq rfl rfl) ?_
    refine sv (yOr rfl rfl (fun hB => rfl)) ?_
    refine sv (yMove rfl) ?_
    refine ungo rfl rfl rfl ?_
    refine sv (yMove h11) ?_
    refine ungo rfl rfl rfl ?_
    refine sv (yNeq rfl rfl) ?_
    refine sv (yOr rfl rfl (fun hB => rfl)) ?_
    refine sv (yMove rfl) ?_
    refine ungo rfl rfl rfl ?_
    refine sv (yMove h15) ?_
    refine ungo rfl rfl rfl ?_
    refine sv (yBuild Try.zeroValue55 rfl pl55 (.cons rfl rfl (.cons rfl rfl (.cons rfl rfl (.cons rfl rfl (.cons rfl rfl .nil))))) rfl) ?_
    refine ungo rfl rfl rfl ?_
    refine sbslice hS Try.underlying46 Try.sizeOf55 rfl Try.zeroValue55 rfl (.cons rfl rfl .nil) rfl ?_; clear hS; intro b131 w hS
    refine ungo rfl rfl rfl ?_
    refine scall Try.call22 (.cons rfl (.cons rfl .nil)) (c_orders (sl_ords (hS.row ov2) rfl) (sl_ords (l := [⟨2, 4, 1, 7, 22⟩]) (n := 1) (own_blk (hS.at b131) rfl (by decide)) rfl)) ?_
    rw [decide_eq_true rfl]
    rintro _ w ⟨rfl, hE⟩; replace hS := hS.step hE; clear hE
    refine ungo rfl rfl rfl ?_
    refine sv (yNot rfl) ?_
    refine sv (yOr rfl rfl (fun hB => rfl)) ?_
    refine sv (yMove rfl) ?_
    refine ungo rfl rfl rfl ?_
    refine sv (yMove h16) ?_
    refine ungo rfl rfl rfl ?_
    refine sbslice hS Try.underlying30 Try.sizeOf3 rfl Try.zeroValue3 rfl (.cons rfl rfl (.cons rfl rfl .nil)) rfl ?_; clear hS; intro b137 w hS
    refine ungo rfl rfl rfl ?_
    refine scall Try.call17 (.cons rfl (.cons rfl .nil)) (c_Ints (sl_ints (hS.row kv2) rfl (by decide)) (ints_sl (b := b137) (l := [0, 0]) (hS.at b137) (by decide) (by decide))) ?_
    rw [decide_eq_true rfl]
    rintro _ w ⟨rfl, hE⟩; replace hS := hS.step hE; clear hE
    refine ungo rfl rfl rfl ?_
    refine sv (yNot rfl) ?_
    refine sv (yOr rfl rfl (fun hB => rfl)) ?_
    refine sv (yMove rfl) ?_
    refine ungo rfl rfl rfl ?_
    refine sv (yMove h17) ?_
    refine ungo rfl rfl rfl ?_
    refine sv (yBuild Try.zeroValue86 rfl pl86 (.cons rfl rfl .nil) rfl) ?_
    refine ungo rfl rfl rfl ?_
    refine sv (yBuild Try.zeroValue86 rfl pl86 (.cons rfl rfl (.cons rfl rfl .nil)) rfl) ?_
    refine ungo rfl rfl rfl ?_
    refine sv (yBuild Try.zeroValue86 rfl pl86 (.cons rfl rfl (.cons rfl rfl .nil)) rfl) ?_
    refine ungo rfl rfl rfl ?_
    refine sbslice hS Try.underlying62 Try.sizeOf86 rfl Try.zeroValue86 rfl (.cons rfl rfl (.cons rfl rfl (.cons rfl rfl .nil))) rfl ?_; clear hS; intro b146 w hS
    refine ungo rfl rfl rfl ?_
    refine scall Try.call27 (.cons rfl (.cons rfl .nil)) (c_Spans (sl_prs (hS.row wv2) rfl) (sl_prs (l := [(0, 30), (5, 50), (65, 140)]) (n := 3) (own_blk (hS.at b146) rfl (by decide)) rfl)) ?_
    rw [decide_eq_true rfl]
    rintro _ w ⟨rfl, hE⟩; replace hS := hS.step hE; clear hE
    refine ungo rfl rfl rfl ?_
    refine sv (yNot rfl) ?_
    refine sv (yOr rfl rfl (fun hB => rfl)) ?_
    refine sv (yMove rfl) ?_
    refine ungo rfl rfl rfl ?_
    refine sv (yMove h18) ?_
    refine ungo rfl rfl rfl ?_
    refine sbslice hS Try.underlying30 Try.sizeOf3 rfl Try.zeroValue3 rfl (.cons rfl rfl (.cons rfl rfl (.cons rfl rfl .nil))) rfl ?_; clear hS; intro b152 w hS
    refine ungo rfl rfl rfl ?_
    refine scall Try.call17 (.cons rfl (.cons rfl .nil)) (c_Ints (sl_ints (hS.row pv2) rfl (by decide)) (ints_sl (b := b152) (l := [0, 5, 65]) (hS.at b152) (by decide) (by decide))) ?_
    rw [decide_eq_true rfl]
    rintro _ w ⟨rfl, hE⟩; replace hS := hS.step hE; clear hE
    refine ungo rfl rfl rfl ?_
    refine sv (yNot rfl) ?_
    refine sv (yOr rfl rfl (fun hB => rfl)) ?_
    refine nil ?_
    show Code.wp _ _ _ _ _
    refine cond rfl (fun c155 => ?_) (fun c155 => ?_)
    ·
      skip
      exact absurd c155 (by decide)
    ·
      skip
      refine skip ?_
      show Code.wp _ _ _ _ _
      refine seq ?_
      refine cutK (fun f => f 1 = .pointer (some ⟨b1, 0, none⟩) ∧ True) ⟨h1, trivial⟩ ?_
      rintro f ⟨h1, -⟩
      refine region_mix (fun w => w.heap[b1]? = some (.cells ([.slice a1 exC.ops.length q1, .slice a2 exC.keys.length q2, .slice a3 exC.kinds.length q3] : List Value).toArray 26 (0, 0))) 9 mixed hS ?_
      clear hS; intro w hS
      refine f_step 0 (by kernel_rfl) rfl (fun c a a' w h => by obtain ⟨_, v, hv, _⟩ := h; cases hv) (hS.at b1) (fun w hS => (yLdBA h1 Try.isAgg26 Try.sizeOf26 hS rfl rfl)) ?_
      show wpA _ _ _ _ _ _ _ _ _ _
      refine a_step (i := 1) (is := []) (by kernel_rfl) ⟨?_, trivial⟩
      refine ⟨_, rfl, ?_⟩
      refine scall Try.call41 .nil c_Drill ?_
      rintro _ w ⟨sc3, rfl, hD3, hE⟩; replace hS := hS.step hE; clear hE
      refine nil ?_
      refine ⟨fun _ => (hS.at b1), ?_⟩
      show wpA _ _ _ _ _ _ _ _ _ _
      show wpA _ _ _ _ _ _ _ _ _ _
      refine a_step (i := 2) (is := []) (by kernel_rfl) ⟨?_, trivial⟩
      refine ⟨_, rfl, ?_⟩
      refine scall Try.call40 .nil c_Acts ?_
      rintro av3 w ⟨hA3, hE⟩; replace hD3 := hD3.ext hE; replace hS := hS.step hE; clear hE
      refine nil ?_
      refine ⟨fun _ => (hS.at b1), ?_⟩
      show wpA _ _ _ _ _ _ _ _ _ _
      show wpA _ _ _ _ _ _ _ _ _ _
      refine a_step (i := 3) (is := []) (by kernel_rfl) ⟨?_, trivial⟩
      refine ⟨_, rfl, ?_⟩
      refine scall Try.call38 (.cons rfl (.cons rfl (.cons rfl (.cons rfl .nil)))) (c_Judge (hC1.ext hS.ext) hD3 (start := 0) (by decide) hA3) ?_
      rw [ex_judge.1, ex_judge.2]
      rintro _ w ⟨jv, rfl, hM⟩; replace hS := hS.call1 hM; clear hM
      obtain ⟨aj, cj, rfl⟩ := row_shape (hS.row jv)
      obtain ⟨gj, rfl, -⟩ := row_get (hS.row (.slice aj 2 cj)) (by decide)
      refine nil ?_
      refine ⟨fun _ => (hS.at b1), ?_⟩
      show wpA _ _ _ _ _ _ _ _ _ _
      refine f_step 4 (by kernel_rfl) rfl (fun c a a' w h => by obtain ⟨_, v, hv, _⟩ := h; cases hv) (hS.at b1) (fun w hS => (yMove rfl)) ?_
      refine f_step 5 (by kernel_rfl) rfl (fun c a a' w h => by obtain ⟨_, v, hv, _⟩ := h; cases hv) (hS.at b1) (fun w hS => (yExt rfl rfl)) ?_
      refine f_step 6 (by kernel_rfl) rfl (fun c a a' w h => by obtain ⟨_, v, hv, _⟩ := h; cases hv) (hS.at b1) (fun w hS => (yExt rfl rfl)) ?_
      refine f_step 7 (by kernel_rfl) rfl (fun c a a' w h => by obtain ⟨_, v, hv, _⟩ := h; cases hv) (hS.at b1) (fun w hS => (yAsg rfl)) ?_
      refine f_step 8 (by kernel_rfl) rfl (fun c a a' w h => by obtain ⟨_, v, hv, _⟩ := h; cases hv) (hS.at b1) (fun w hS => (yAsg rfl)) ?_
      refine a_end (by kernel_rfl) ?_
      show Code.wp _ _ _ _ _
      refine seq ?_
      refine cutK (fun f => f 3 = .int .i64 0 ∧ f 19 = .slice (some ⟨gj, 0, none⟩) 2 cj ∧ True) ⟨rfl, rfl, trivial⟩ ?_
      rintro f ⟨h3, h19, -⟩
      refine region ?_
      refine sv (yMove h3) ?_
      refine sv (yEql rfl rfl) ?_
      refine sv (yMove rfl) ?_
      refine ungo rfl rfl rfl ?_
      refine sv (yMove h19) ?_
      refine ungo rfl rfl rfl ?_
      refine sv (yLen rfl Try.underlying91) ?_
      refine ungo rfl rfl rfl ?_
      refine sv (yEql rfl rfl) ?_
      refine sv (yAnd rfl (fun hB => rfl) rfl) ?_
      refine sv (yMove rfl) ?_
      refine ungo rfl rfl rfl ?_
      refine sv (yMove h19) ?_
      refine ungo rfl rfl rfl ?_
      refine sv (yIx0 (m := 0) rfl rfl Try.runUnderlying91 Try.sizeOf98 (by decide)) ?_
      refine ungo rfl rfl rfl ?_
      refine sv (yLdA rfl Try.isAgg98 Try.sizeOf98 (flat_cells0 (l := [((207 : Int), (1 : Int)), (207, 2)]) (i := 0) pC_len (row_at (hS.row (.slice (some ⟨gj, 0, none⟩) 2 cj)) rfl (by decide)) rfl) rfl) ?_
      refine ungo rfl rfl rfl ?_
      refine sv (yBuild Try.zeroValue98 rfl pl98 (.cons rfl rfl (.cons rfl rfl .nil)) rfl) ?_
      refine ungo rfl rfl rfl ?_
      refine sv (eqS98 rfl rfl) ?_
      refine sv (yAnd rfl (fun hB => rfl) rfl) ?_
      refine sv (yMove rfl) ?_
      refine ungo rfl rfl rfl ?_
      refine sv (yMove h19) ?_
      refine ungo rfl rfl rfl ?_
      refine sv (yIx0 (m := 1) rfl rfl Try.runUnderlying91 Try.sizeOf98 (by decide)) ?_
      refine ungo rfl rfl rfl ?_
      refine sv (yLdA rfl Try.isAgg98 Try.sizeOf98 (flat_cells0 (l := [((207 : Int), (1 : Int)), (207, 2)]) (i := 1) pC_len (row_at (hS.row (.slice (some ⟨gj, 0, none⟩) 2 cj)) rfl (by decide)) rfl) rfl) ?_
      refine ungo rfl rfl rfl ?_
      refine sv (yBuild Try.zeroValue98 rfl pl98 (.cons rfl rfl (.cons rfl rfl .nil)) rfl) ?_
      refine ungo rfl rfl rfl ?_
      refine sv (eqS98 rfl rfl) ?_
      refine sv (yAnd rfl (fun hB => rfl) rfl) ?_
      refine sv (yMove rfl) ?_
      refine ungo rfl rfl rfl ?_
      refine scall Try.call18 .nil c_Awake ?_
      rintro _ w ⟨rfl, hE⟩; replace hS := hS.step hE; clear hE
      refine sv (yAnd rfl (fun hB => rfl) rfl) ?_
      refine sv (yAsg rfl) ?_
      refine nil ?_
      show Code.wp _ _ _ _ _
      refine wp_ret ?_
      exact retV (res1 rfl rfl) (hE0.trans hS.ext)
end Go.Proofs.Ytghgnofilbnbaaa
/- part LibM -/
namespace Bx
open Go Go.RowKit
def WOk {H : Type} (P : Program) (t : TypeId) (d : DataW H) : Prop := ∀ n ∈ d.weights P t, n ≤ 140737488351232
def RdW {α : Type} (P : Program) (t : TypeId) (R : World → List Value → α → Prop) : Prop :=
  ∀ (H : Type) (enc : TypeId × Value → H) (w : World) (base : Nat) (spare : Nat → Bool) (held : Bool) (fuel : Nat) (cs : List Value) (x : DataW H × List MemPlace), DataW.trod enc P w base spare held fuel t cs = some x → WOk P t x.1 → ∃ a, R w cs a
theorem Rd.w {α : Type} {P : Program} {t : TypeId} {R : World → List Value → α → Prop} (h : Rd P t R) : RdW P t R := fun H enc w base spare held fuel cs x hx _ => h H enc w base spare held fuel cs x hx
section
variable {P : Program} {t e : TypeId}
theorem weightsAll_mem {H : Type} {P : Program} {e : TypeId} : ∀ {l : List (DataW H)} {d : DataW H}, d ∈ l → ∀ n ∈ d.weights P e, n ∈ DataW.weightsAll P e l
  | a :: l, d, hd, n, hn => by
    unfold DataW.weightsAll
    rcases List.mem_cons.1 hd with rfl | hd
    · exact List.mem_append_left _ hn
    · exact List.mem_append_right _ (weightsAll_mem hd n hn)
theorem rdw_slice {α : Type} {R : World → List Value → α → Prop} {k bytes : Nat} (hR : RdW P e R) (hk : P.cellsOf e = k) (h0 : 0 < k) (ht : P.underlying t = some (.slice e)) (hb : P.bytesOf e = bytes) : RdW P t (fun w cs (l : List α) => ∃ v, cs = [v] ∧ Sl w k R v l ∧ l.length * bytes ≤ 140737488351232) := by
  intro H enc w base spare held fuel cs x h hW
  rcases Deep.open_slice ht h with ⟨rfl, _⟩ | ⟨a, len, cap, m, n, D, Pl, rfl, _, hl, hm, hmm, rfl, hx⟩
  · exact ⟨[], _, rfl, Sl.nil, by simp⟩
  · have hlm : len ≤ m := by rw [hmm]; split <;> omega
    rw [hk] at hx
    unfold WOk at hW
    simp only [DataW.weights, ht] at hW
    have hbd := hW _ (List.mem_cons_self ..)
    have hel : ∀ i, i < len → WOk P e (D i) := fun i hi n hn => hW n (List.mem_cons_of_mem _ (List.mem_append_left _ (weightsAll_mem (List.mem_map.2 ⟨i, List.mem_range.2 hi, rfl⟩) n hn)))
    obtain ⟨l, hll, hp⟩ := list_of (p := fun i x => ∃ cs, w.cells? base (a.add (i * k)) k = some cs ∧ R w cs x) len (fun i hi => by
      obtain ⟨cs, h1, h2⟩ := hx i (by omega)
      obtain ⟨y, hy⟩ := hR H enc w base spare held n cs _ h2 (hel i hi)
      exact ⟨y, cs, h1, hy⟩)
    refine ⟨l, _, rfl, ⟨some a, cap, by rw [hll], by omega, by simp only [maxLen] at hm; omega, fun i hi => ?_⟩, ?_⟩
    · obtain ⟨cs, h1, h2⟩ := hp i hi
      obtain ⟨cs0, h01, _⟩ := hp 0 (by omega)
      obtain ⟨_, hl0, hc0⟩ := World.cells?_some h01
      have ha := addr_of ((hc0 0 h0).trans (List.getElem?_eq_getElem (by omega)))
      obtain ⟨_, hlc, hc⟩ := World.cells?_some h1
      obtain ⟨b, o, s⟩ := a
      have hs : s = none := by
        have : (0 : Nat) * k = 0 := Nat.zero_mul k
        simp only [this, Addr.add, if_true] at ha
        simpa using ha
      subst hs
      refine ⟨b, o, cs, rfl, hlc, fun j v hv => ?_, h2⟩
      have hj : j < k := by have := (List.getElem?_eq_some_iff.1 hv).1; omega
      have := (hc j hj).trans hv
      rwa [addr_add, addr_add] at this
    · rw [hll, ← hb]
      refine Nat.le_trans ?_ hbd
      exact Nat.mul_le_mul_right _ (by simp)
theorem rdw_fields {H : Type} {enc : TypeId × Value → H} {w : World} {base : Nat} {spare : Nat → Bool} {held : Bool} {fuel : Nat} {cs : List Value} {x : DataW H × List MemPlace} {fs : Array Field} (ht : P.underlying t = some (.struct fs)) (h : DataW.trod enc P w base spare held fuel t cs = some x) (hW : WOk P t x.1) :
    cs.length = P.cellsOf t ∧ ∃ n, ∀ (i : Nat) (f : Field), fs[i]? = some f → ∃ y, DataW.trod enc P w base spare held n f.type ((cs.drop f.offset).take (P.cellsOf f.type)) = some y ∧ WOk P f.type y.1 := by
  obtain ⟨xs, n, _, rfl, hl, hxs, hf⟩ := DataW.trod_struct ht h
  refine ⟨hl, n, fun i f hi => ?_⟩
  have h1 := (Array.getElem?_eq_some_iff.1 hi).1
  have hix : i < xs.length := by omega
  refine ⟨xs[i], (hf i f hi).trans (List.getElem?_eq_getElem hix), fun m hm => hW m ?_⟩
  simp only [DataW.weights, ht]
  exact DataW.weights_mem_each (j := i) (t := f.type) (d := xs[i].1) (by simp [hi]) (by simp [hix]) m hm
end
end Bx
/- part RdF -/
namespace Go.Proofs.Ytghgnofilbnbaaa
open Go Bx
section
variable {H : Type} {enc : TypeId × Value → H} {w : World} {base : Nat} {spare : Nat → Bool} {held : Bool} {fuel : Nat} {cs : List Value} {x : DataW H × List MemPlace}
theorem rdF26 (h : DataW.trod enc Try.prog w base spare held fuel 26 cs = some x) (hW : WOk Try.prog 26 x.1) : ∃ n c0 c1 c2, cs = [c0, c1, c2] ∧ (∃ y, DataW.trod enc Try.prog w base spare held n 22 [c0] = some y ∧ WOk Try.prog 22 y.1) ∧ (∃ y, DataW.trod enc Try.prog w base spare held n 23 [c1] = some y ∧ WOk Try.prog 23 y.1) ∧ (∃ y, DataW.trod enc Try.prog w base spare held n 24 [c2] = some y ∧ WOk Try.prog 24 y.1) := by
  have z22 : Try.prog.cellsOf 22 = 1 := by kernel_rfl
  have z23 : Try.prog.cellsOf 23 = 1 := by kernel_rfl
  have z24 : Try.prog.cellsOf 24 = 1 := by kernel_rfl
  obtain ⟨hl, n, hf⟩ := rdw_fields Try.underlying26 h hW
  have hz : Try.prog.cellsOf 26 = 3 := by kernel_rfl
  rw [hz] at hl
  obtain ⟨c0, c1, c2, rfl⟩ := three_of hl
  have f0 : ∃ y, DataW.trod enc Try.prog w base spare held n 22 ((List.drop 0 [c0, c1, c2]).take (Try.prog.cellsOf 22)) = some y ∧ WOk Try.prog 22 y.1 := hf 0 _ rfl
  rw [z22] at f0
  have f1 : ∃ y, DataW.trod enc Try.prog w base spare held n 23 ((List.drop 1 [c0, c1, c2]).take (Try.prog.cellsOf 23)) = some y ∧ WOk Try.prog 23 y.1 := hf 1 _ rfl
  rw [z23] at f1
  have f2 : ∃ y, DataW.trod enc Try.prog w base spare held n 24 ((List.drop 2 [c0, c1, c2]).take (Try.prog.cellsOf 24)) = some y ∧ WOk Try.prog 24 y.1 := hf 2 _ rfl
  rw [z24] at f2
  exact ⟨n, c0, c1, c2, rfl, f0, f1, f2⟩
theorem rdF29 (h : DataW.trod enc Try.prog w base spare held fuel 29 cs = some x) (hW : WOk Try.prog 29 x.1) : ∃ n c0 c1, cs = [c0, c1] ∧ (∃ y, DataW.trod enc Try.prog w base spare held n 9 [c0] = some y ∧ WOk Try.prog 9 y.1) ∧ (∃ y, DataW.trod enc Try.prog w base spare held n 27 [c1] = some y ∧ WOk Try.prog 27 y.1) := by
  have z9 : Try.prog.cellsOf 9 = 1 := by kernel_rfl
  have z27 : Try.prog.cellsOf 27 = 1 := by kernel_rfl
  obtain ⟨hl, n, hf⟩ := rdw_fields Try.underlying29 h hW
  have hz : Try.prog.cellsOf 29 = 2 := by kernel_rfl
  rw [hz] at hl
  obtain ⟨c0, c1, rfl⟩ := two_of hl
  have f0 : ∃ y, DataW.trod enc Try.prog w base spare held n 9 ((List.drop 0 [c0, c1]).take (Try.prog.cellsOf 9)) = some y ∧ WOk Try.prog 9 y.1 := hf 0 _ rfl
  rw [z9] at f0
  have f1 : ∃ y, DataW.trod enc Try.prog w base spare held n 27 ((List.drop 1 [c0, c1]).take (Try.prog.cellsOf 27)) = some y ∧ WOk Try.prog 27 y.1 := hf 1 _ rfl
  rw [z27] at f1
  exact ⟨n, c0, c1, rfl, f0, f1⟩
theorem rdF39 (h : DataW.trod enc Try.prog w base spare held fuel 39 cs = some x) (hW : WOk Try.prog 39 x.1) : ∃ n c0 c1 c2 c3, cs = [c0, c1, c2, c3] ∧ (∃ y, DataW.trod enc Try.prog w base spare held n 29 [c0, c1] = some y ∧ WOk Try.prog 29 y.1) ∧ (∃ y, DataW.trod enc Try.prog w base spare held n 3 [c2] = some y ∧ WOk Try.prog 3 y.1) ∧ (∃ y, DataW.trod enc Try.prog w base spare held n 37 [c3] = some y ∧ WOk Try.prog 37 y.1) := by
  have z3 : Try.prog.cellsOf 3 = 1 := by kernel_rfl
  have z29 : Try.prog.cellsOf 29 = 2 := by kernel_rfl
  have z37 : Try.prog.cellsOf 37 = 1 := by kernel_rfl
  obtain ⟨hl, n, hf⟩ := rdw_fields Try.underlying39 h hW
  have hz : Try.prog.cellsOf 39 = 4 := by kernel_rfl
  rw [hz] at hl
  obtain ⟨c0, c1, c2, c3, rfl⟩ := four_of hl
  have f0 : ∃ y, DataW.trod enc Try.prog w base spare held n 29 ((List.drop 0 [c0, c1, c2, c3]).take (Try.prog.cellsOf 29)) = some y ∧ WOk Try.prog 29 y.1 := hf 0 _ rfl
  rw [z29] at f0
  have f1 : ∃ y, DataW.trod enc Try.prog w base spare held n 3 ((List.drop 2 [c0, c1, c2, c3]).take (Try.prog.cellsOf 3)) = some y ∧ WOk Try.prog 3 y.1 := hf 1 _ rfl
  rw [z3] at f1
  have f2 : ∃ y, DataW.trod enc Try.prog w base spare held n 37 ((List.drop 3 [c0, c1, c2, c3]).take (Try.prog.cellsOf 37)) = some y ∧ WOk Try.prog 37 y.1 := hf 2 _ rfl
  rw [z37] at f2
  exact ⟨n, c0, c1, c2, c3, rfl, f0, f1, f2⟩
theorem rdF42 (h : DataW.trod enc Try.prog w base spare held fuel 42 cs = some x) (hW : WOk Try.prog 42 x.1) : ∃ n c0 c1 c2, cs = [c0, c1, c2] ∧ (∃ y, DataW.trod enc Try.prog w base spare held n 9 [c0] = some y ∧ WOk Try.prog 9 y.1) ∧ (∃ y, DataW.trod enc Try.prog w base spare held n 3 [c1] = some y ∧ WOk Try.prog 3 y.1) ∧ (∃ y, DataW.trod enc Try.prog w base spare held n 40 [c2] = some y ∧ WOk Try.prog 40 y.1) := by
  have z3 : Try.prog.cellsOf 3 = 1 := by kernel_rfl
  have z9 : Try.prog.cellsOf 9 = 1 := by kernel_rfl
  have z40 : Try.prog.cellsOf 40 = 1 := by kernel_rfl
  obtain ⟨hl, n, hf⟩ := rdw_fields Try.underlying42 h hW
  have hz : Try.prog.cellsOf 42 = 3 := by kernel_rfl
  rw [hz] at hl
  obtain ⟨c0, c1, c2, rfl⟩ := three_of hl
  have f0 : ∃ y, DataW.trod enc Try.prog w base spare held n 9 ((List.drop 0 [c0, c1, c2]).take (Try.prog.cellsOf 9)) = some y ∧ WOk Try.prog 9 y.1 := hf 0 _ rfl
  rw [z9] at f0
  have f1 : ∃ y, DataW.trod enc Try.prog w base spare held n 3 ((List.drop 1 [c0, c1, c2]).take (Try.prog.cellsOf 3)) = some y ∧ WOk Try.prog 3 y.1 := hf 1 _ rfl
  rw [z3] at f1
  have f2 : ∃ y, DataW.trod enc Try.prog w base spare held n 40 ((List.drop 2 [c0, c1, c2]).take (Try.prog.cellsOf 40)) = some y ∧ WOk Try.prog 40 y.1 := hf 2 _ rfl
  rw [z40] at f2
  exact ⟨n, c0, c1, c2, rfl, f0, f1, f2⟩
theorem rdF44 (h : DataW.trod enc Try.prog w base spare held fuel 44 cs = some x) (hW : WOk Try.prog 44 x.1) : ∃ n c0 c1, cs = [c0, c1] ∧ (∃ y, DataW.trod enc Try.prog w base spare held n 3 [c0] = some y ∧ WOk Try.prog 3 y.1) ∧ (∃ y, DataW.trod enc Try.prog w base spare held n 3 [c1] = some y ∧ WOk Try.prog 3 y.1) := by
  have z3 : Try.prog.cellsOf 3 = 1 := by kernel_rfl
  obtain ⟨hl, n, hf⟩ := rdw_fields Try.underlying44 h hW
  have hz : Try.prog.cellsOf 44 = 2 := by kernel_rfl
  rw [hz] at hl
  obtain ⟨c0, c1, rfl⟩ := two_of hl
  have f0 : ∃ y, DataW.trod enc Try.prog w base spare held n 3 ((List.drop 0 [c0, c1]).take (Try.prog.cellsOf 3)) = some y ∧ WOk Try.prog 3 y.1 := hf 0 _ rfl
  rw [z3] at f0
  have f1 : ∃ y, DataW.trod enc Try.prog w base spare held n 3 ((List.drop 1 [c0, c1]).take (Try.prog.cellsOf 3)) = some y ∧ WOk Try.prog 3 y.1 := hf 1 _ rfl
  rw [z3] at f1
  exact ⟨n, c0, c1, rfl, f0, f1⟩
theorem rdF53 (h : DataW.trod enc Try.prog w base spare held fuel 53 cs = some x) (hW : WOk Try.prog 53 x.1) : ∃ n c0 c1 c2 c3 c4 c5, cs = [c0, c1, c2, c3, c4, c5] ∧ (∃ y, DataW.trod enc Try.prog w base spare held n 3 [c0] = some y ∧ WOk Try.prog 3 y.1) ∧ (∃ y, DataW.trod enc Try.prog w base spare held n 3 [c1] = some y ∧ WOk Try.prog 3 y.1) ∧ (∃ y, DataW.trod enc Try.prog w base spare held n 3 [c2] = some y ∧ WOk Try.prog 3 y.1) ∧ (∃ y, DataW.trod enc Try.prog w base spare held n 3 [c3] = some y ∧ WOk Try.prog 3 y.1) ∧ (∃ y, DataW.trod enc Try.prog w base spare held n 3 [c4] = some y ∧ WOk Try.prog 3 y.1) ∧ (∃ y, DataW.trod enc Try.prog w base spare held n 3 [c5] = some y ∧ WOk Try.prog 3 y.1) := by
  have z3 : Try.prog.cellsOf 3 = 1 := by kernel_rfl
  obtain ⟨hl, n, hf⟩ := rdw_fields Try.underlying53 h hW
  have hz : Try.prog.cellsOf 53 = 6 := by kernel_rfl
  rw [hz] at hl
  obtain ⟨c0, c1, c2, c3, c4, c5, rfl⟩ := six_of hl
  have f0 : ∃ y, DataW.trod enc Try.prog w base spare held n 3 ((List.drop 0 [c0, c1, c2, c3, c4, c5]).take (Try.prog.cellsOf 3)) = some y ∧ WOk Try.prog 3 y.1 := hf 0 _ rfl
  rw [z3] at f0
  have f1 : ∃ y, DataW.trod enc Try.prog w base spare held n 3 ((List.drop 1 [c0, c1, c2, c3, c4, c5]).take (Try.prog.cellsOf 3)) = some y ∧ WOk Try.prog 3 y.1 := hf 1 _ rfl
  rw [z3] at f1
  have f2 : ∃ y, DataW.trod enc Try.prog w base spare held n 3 ((List.drop 2 [c0, c1, c2, c3, c4, c5]).take (Try.prog.cellsOf 3)) = some y ∧ WOk Try.prog 3 y.1 := hf 2 _ rfl
  rw [z3] at f2
  have f3 : ∃ y, DataW.trod enc Try.prog w base spare held n 3 ((List.drop 3 [c0, c1, c2, c3, c4, c5]).take (Try.prog.cellsOf 3)) = some y ∧ WOk Try.prog 3 y.1 := hf 3 _ rfl
  rw [z3] at f3
  have f4 : ∃ y, DataW.trod enc Try.prog w base spare held n 3 ((List.drop 4 [c0, c1, c2, c3, c4, c5]).take (Try.prog.cellsOf 3)) = some y ∧ WOk Try.prog 3 y.1 := hf 4 _ rfl
  rw [z3] at f4
  have f5 : ∃ y, DataW.trod enc Try.prog w base spare held n 3 ((List.drop 5 [c0, c1, c2, c3, c4, c5]).take (Try.prog.cellsOf 3)) = some y ∧ WOk Try.prog 3 y.1 := hf 5 _ rfl
  rw [z3] at f5
  exact ⟨n, c0, c1, c2, c3, c4, c5, rfl, f0, f1, f2, f3, f4, f5⟩
theorem rdF68 (h : DataW.trod enc Try.prog w base spare held fuel 68 cs = some x) (hW : WOk Try.prog 68 x.1) : ∃ n c0 c1 c2 c3, cs = [c0, c1, c2, c3] ∧ (∃ y, DataW.trod enc Try.prog w base spare held n 5 [c0] = some y ∧ WOk Try.prog 5 y.1) ∧ (∃ y, DataW.trod enc Try.prog w base spare held n 44 [c1, c2] = some y ∧ WOk Try.prog 44 y.1) ∧ (∃ y, DataW.trod enc Try.prog w base spare held n 5 [c3] = some y ∧ WOk Try.prog 5 y.1) := by
  have z5 : Try.prog.cellsOf 5 = 1 := by kernel_rfl
  have z44 : Try.prog.cellsOf 44 = 2 := by kernel_rfl
  obtain ⟨hl, n, hf⟩ := rdw_fields Try.underlying68 h hW
  have hz : Try.prog.cellsOf 68 = 4 := by kernel_rfl
  rw [hz] at hl
  obtain ⟨c0, c1, c2, c3, rfl⟩ := four_of hl
  have f0 : ∃ y, DataW.trod enc Try.prog w base spare held n 5 ((List.drop 0 [c0, c1, c2, c3]).take (Try.prog.cellsOf 5)) = some y ∧ WOk Try.prog 5 y.1 := hf 0 _ rfl
  rw [z5] at f0
  have f1 : ∃ y, DataW.trod enc Try.prog w base spare held n 44 ((List.drop 1 [c0, c1, c2, c3]).take (Try.prog.cellsOf 44)) = some y ∧ WOk Try.prog 44 y.1 := hf 1 _ rfl
  rw [z44] at f1
  have f2 : ∃ y, DataW.trod enc Try.prog w base spare held n 5 ((List.drop 3 [c0, c1, c2, c3]).take (Try.prog.cellsOf 5)) = some y ∧ WOk Try.prog 5 y.1 := hf 2 _ rfl
  rw [z5] at f2
  exact ⟨n, c0, c1, c2, c3, rfl, f0, f1, f2⟩
theorem rdF70 (h : DataW.trod enc Try.prog w base spare held fuel 70 cs = some x) (hW : WOk Try.prog 70 x.1) : ∃ n c0 c1 c2 c3 c4 c5, cs = [c0, c1, c2, c3, c4, c5] ∧ (∃ y, DataW.trod enc Try.prog w base spare held n 68 [c0, c1, c2, c3] = some y ∧ WOk Try.prog 68 y.1) ∧ (∃ y, DataW.trod enc Try.prog w base spare held n 3 [c4] = some y ∧ WOk Try.prog 3 y.1) ∧ (∃ y, DataW.trod enc Try.prog w base spare held n 3 [c5] = some y ∧ WOk Try.prog 3 y.1) := by
  have z3 : Try.prog.cellsOf 3 = 1 := by kernel_rfl
  have z68 : Try.prog.cellsOf 68 = 4 := by kernel_rfl
  obtain ⟨hl, n, hf⟩ := rdw_fields Try.underlying70 h hW
  have hz : Try.prog.cellsOf 70 = 6 := by kernel_rfl
  rw [hz] at hl
  obtain ⟨c0, c1, c2, c3, c4, c5, rfl⟩ := six_of hl
  have f0 : ∃ y, DataW.trod enc Try.prog w base spare held n 68 ((List.drop 0 [c0, c1, c2, c3, c4, c5]).take (Try.prog.cellsOf 68)) = some y ∧ WOk Try.prog 68 y.1 := hf 0 _ rfl
  rw [z68] at f0
  have f1 : ∃ y, DataW.trod enc Try.prog w base spare held n 3 ((List.drop 4 [c0, c1, c2, c3, c4, c5]).take (Try.prog.cellsOf 3)) = some y ∧ WOk Try.prog 3 y.1 := hf 1 _ rfl
  rw [z3] at f1
  have f2 : ∃ y, DataW.trod enc Try.prog w base spare held n 3 ((List.drop 5 [c0, c1, c2, c3, c4, c5]).take (Try.prog.cellsOf 3)) = some y ∧ WOk Try.prog 3 y.1 := hf 2 _ rfl
  rw [z3] at f2
  exact ⟨n, c0, c1, c2, c3, c4, c5, rfl, f0, f1, f2⟩
theorem rdF79 (h : DataW.trod enc Try.prog w base spare held fuel 79 cs = some x) (hW : WOk Try.prog 79 x.1) : ∃ n c0 c1 c2 c3 c4 c5, cs = [c0, c1, c2, c3, c4, c5] ∧ (∃ y, DataW.trod enc Try.prog w base spare held n 9 [c0] = some y ∧ WOk Try.prog 9 y.1) ∧ (∃ y, DataW.trod enc Try.prog w base spare held n 3 [c1] = some y ∧ WOk Try.prog 3 y.1) ∧ (∃ y, DataW.trod enc Try.prog w base spare held n 3 [c2] = some y ∧ WOk Try.prog 3 y.1) ∧ (∃ y, DataW.trod enc Try.prog w base spare held n 3 [c3] = some y ∧ WOk Try.prog 3 y.1) ∧ (∃ y, DataW.trod enc Try.prog w base spare held n 30 [c4] = some y ∧ WOk Try.prog 30 y.1) ∧ (∃ y, DataW.trod enc Try.prog w base spare held n 4 [c5] = some y ∧ WOk Try.prog 4 y.1) := by
  have z3 : Try.prog.cellsOf 3 = 1 := by kernel_rfl
  have z4 : Try.prog.cellsOf 4 = 1 := by kernel_rfl
  have z9 : Try.prog.cellsOf 9 = 1 := by kernel_rfl
  have z30 : Try.prog.cellsOf 30 = 1 := by kernel_rfl
  obtain ⟨hl, n, hf⟩ := rdw_fields Try.underlying79 h hW
  have hz : Try.prog.cellsOf 79 = 6 := by kernel_rfl
  rw [hz] at hl
  obtain ⟨c0, c1, c2, c3, c4, c5, rfl⟩ := six_of hl
  have f0 : ∃ y, DataW.trod enc Try.prog w base spare held n 9 ((List.drop 0 [c0, c1, c2, c3, c4, c5]).take (Try.prog.cellsOf 9)) = some y ∧ WOk Try.prog 9 y.1 := hf 0 _ rfl
  rw [z9] at f0
  have f1 : ∃ y, DataW.trod enc Try.prog w base spare held n 3 ((List.drop 1 [c0, c1, c2, c3, c4, c5]).take (Try.prog.cellsOf 3)) = some y ∧ WOk Try.prog 3 y.1 := hf 1 _ rfl
  rw [z3] at f1
  have f2 : ∃ y, DataW.trod enc Try.prog w base spare held n 3 ((List.drop 2 [c0, c1, c2, c3, c4, c5]).take (Try.prog.cellsOf 3)) = some y ∧ WOk Try.prog 3 y.1 := hf 2 _ rfl
  rw [z3] at f2
  have f3 : ∃ y, DataW.trod enc Try.prog w base spare held n 3 ((List.drop 3 [c0, c1, c2, c3, c4, c5]).take (Try.prog.cellsOf 3)) = some y ∧ WOk Try.prog 3 y.1 := hf 3 _ rfl
  rw [z3] at f3
  have f4 : ∃ y, DataW.trod enc Try.prog w base spare held n 30 ((List.drop 4 [c0, c1, c2, c3, c4, c5]).take (Try.prog.cellsOf 30)) = some y ∧ WOk Try.prog 30 y.1 := hf 4 _ rfl
  rw [z30] at f4
  have f5 : ∃ y, DataW.trod enc Try.prog w base spare held n 4 ((List.drop 5 [c0, c1, c2, c3, c4, c5]).take (Try.prog.cellsOf 4)) = some y ∧ WOk Try.prog 4 y.1 := hf 5 _ rfl
  rw [z4] at f5
  exact ⟨n, c0, c1, c2, c3, c4, c5, rfl, f0, f1, f2, f3, f4, f5⟩
theorem rdF80 (h : DataW.trod enc Try.prog w base spare held fuel 80 cs = some x) : ∃ n c0 c1, cs = [c0, c1] ∧ (∃ y, DataW.trod enc Try.prog w base spare held n 3 [c0] = some y) ∧ (∃ y, DataW.trod enc Try.prog w base spare held n 3 [c1] = some y) := by
  have z3 : Try.prog.cellsOf 3 = 1 := by kernel_rfl
  obtain ⟨hl, n, hf⟩ := rd_elems Try.underlying80 z3 h
  have hz : Try.prog.cellsOf 80 = 2 := by kernel_rfl
  rw [hz] at hl
  obtain ⟨c0, c1, rfl⟩ := two_of hl
  have f0 : ∃ y, DataW.trod enc Try.prog w base spare held n 3 [c0] = some y := hf 0 (by omega)
  have f1 : ∃ y, DataW.trod enc Try.prog w base spare held n 3 [c1] = some y := hf 1 (by omega)
  exact ⟨n, c0, c1, rfl, f0, f1⟩
theorem rdF89 (h : DataW.trod enc Try.prog w base spare held fuel 89 cs = some x) (hW : WOk Try.prog 89 x.1) : ∃ n c0 c1 c2 c3 c4, cs = [c0, c1, c2, c3, c4] ∧ (∃ y, DataW.trod enc Try.prog w base spare held n 3 [c0] = some y ∧ WOk Try.prog 3 y.1) ∧ (∃ y, DataW.trod enc Try.prog w base spare held n 3 [c1] = some y ∧ WOk Try.prog 3 y.1) ∧ (∃ y, DataW.trod enc Try.prog w base spare held n 3 [c2] = some y ∧ WOk Try.prog 3 y.1) ∧ (∃ y, DataW.trod enc Try.prog w base spare held n 3 [c3] = some y ∧ WOk Try.prog 3 y.1) ∧ (∃ y, DataW.trod enc Try.prog w base spare held n 3 [c4] = some y ∧ WOk Try.prog 3 y.1) := by
  have z3 : Try.prog.cellsOf 3 = 1 := by kernel_rfl
  obtain ⟨hl, n, hf⟩ := rdw_fields Try.underlying89 h hW
  have hz : Try.prog.cellsOf 89 = 5 := by kernel_rfl
  rw [hz] at hl
  obtain ⟨c0, c1, c2, c3, c4, rfl⟩ := five_of hl
  have f0 : ∃ y, DataW.trod enc Try.prog w base spare held n 3 ((List.drop 0 [c0, c1, c2, c3, c4]).take (Try.prog.cellsOf 3)) = some y ∧ WOk Try.prog 3 y.1 := hf 0 _ rfl
  rw [z3] at f0
  have f1 : ∃ y, DataW.trod enc Try.prog w base spare held n 3 ((List.drop 1 [c0, c1, c2, c3, c4]).take (Try.prog.cellsOf 3)) = some y ∧ WOk Try.prog 3 y.1 := hf 1 _ rfl
  rw [z3] at f1
  have f2 : ∃ y, DataW.trod enc Try.prog w base spare held n 3 ((List.drop 2 [c0, c1, c2, c3, c4]).take (Try.prog.cellsOf 3)) = some y ∧ WOk Try.prog 3 y.1 := hf 2 _ rfl
  rw [z3] at f2
  have f3 : ∃ y, DataW.trod enc Try.prog w base spare held n 3 ((List.drop 3 [c0, c1, c2, c3, c4]).take (Try.prog.cellsOf 3)) = some y ∧ WOk Try.prog 3 y.1 := hf 3 _ rfl
  rw [z3] at f3
  have f4 : ∃ y, DataW.trod enc Try.prog w base spare held n 3 ((List.drop 4 [c0, c1, c2, c3, c4]).take (Try.prog.cellsOf 3)) = some y ∧ WOk Try.prog 3 y.1 := hf 4 _ rfl
  rw [z3] at f4
  exact ⟨n, c0, c1, c2, c3, c4, rfl, f0, f1, f2, f3, f4⟩
end
end Go.Proofs.Ytghgnofilbnbaaa
/- part Rd1 -/
namespace Go.Proofs.Ytghgnofilbnbaaa
open Go Bx
theorem rd_Spn : RdW Try.prog 44 RSpn := by
  intro H enc w base spare held fuel cs x h hW
  obtain ⟨n, c0, c1, rfl, ⟨y0, f0, k0⟩, ⟨y1, f1, k1⟩⟩ := rdF44 h hW
  obtain ⟨a0, g0⟩ := (Rd.w (rd_int Try.underlying3)) _ _ _ _ _ _ _ _ _ f0 k0
  obtain ⟨a1, g1⟩ := (Rd.w (rd_int Try.underlying3)) _ _ _ _ _ _ _ _ _ f1 k1
  obtain ⟨e0, i0⟩ := g0; obtain ⟨e1, i1⟩ := g1; cases e0; cases e1; exact ⟨⟨a0, a1⟩, rfl, i0, i1⟩
theorem rd_Spns : RdW Try.prog 40 (fun w cs (l : List Spn) => ∃ v, cs = [v] ∧ Sl w 2 RSpn v l ∧ l.length * 16 ≤ 140737488351232) := rdw_slice rd_Spn (by kernel_rfl) (by decide) Try.underlying40 (by kernel_rfl)
theorem rd_Ints : RdW Try.prog 30 (fun w cs (l : List Int) => ∃ v, cs = [v] ∧ Sl w 1 RInt v l ∧ l.length * 8 ≤ 140737488351232) := rdw_slice (Rd.w (rd_int Try.underlying3)) (by kernel_rfl) (by decide) Try.underlying30 (by kernel_rfl)
theorem rd_Nams : RdW Try.prog 23 (fun w cs (l : List ByteArray) => ∃ v, cs = [v] ∧ Sl w 1 RNam v l ∧ l.length * 16 ≤ 140737488351232) := rdw_slice (Rd.w (rd_str Try.underlying9)) (by kernel_rfl) (by decide) Try.underlying23 (by kernel_rfl)
theorem rd_Opr : RdW Try.prog 42 ROprS := by
  intro H enc w base spare held fuel cs x h hW
  obtain ⟨n, c0, c1, c2, rfl, ⟨y0, f0, k0⟩, ⟨y1, f1, k1⟩, ⟨y2, f2, k2⟩⟩ := rdF42 h hW
  obtain ⟨a0, g0⟩ := (Rd.w (rd_str Try.underlying9)) _ _ _ _ _ _ _ _ _ f0 k0
  obtain ⟨a1, g1⟩ := (Rd.w (rd_int Try.underlying3)) _ _ _ _ _ _ _ _ _ f1 k1
  obtain ⟨a2, g2⟩ := rd_Spns _ _ _ _ _ _ _ _ _ f2 k2
  obtain ⟨e0, i0⟩ := g0; obtain ⟨e1, i1⟩ := g1; obtain ⟨v2, e2, i2, r2⟩ := g2; cases e0; cases e1; cases e2; exact ⟨⟨a0, a1, a2⟩, ⟨_, rfl, i0, i1, i2, Nat.le_trans r2 (by decide)⟩, r2⟩
theorem rd_Oprs : RdW Try.prog 22 (fun w cs (l : List Opr) => ∃ v, cs = [v] ∧ Sl w 3 ROprS v l ∧ l.length * 48 ≤ 140737488351232) := rdw_slice rd_Opr (by kernel_rfl) (by decide) Try.underlying22 (by kernel_rfl)
theorem rd_Knd : RdW Try.prog 79 RKnd := by
  intro H enc w base spare held fuel cs x h hW
  obtain ⟨n, c0, c1, c2, c3, c4, c5, rfl, ⟨y0, f0, k0⟩, ⟨y1, f1, k1⟩, ⟨y2, f2, k2⟩, ⟨y3, f3, k3⟩, ⟨y4, f4, k4⟩, ⟨y5, f5, k5⟩⟩ := rdF79 h hW
  obtain ⟨a0, g0⟩ := (Rd.w (rd_str Try.underlying9)) _ _ _ _ _ _ _ _ _ f0 k0
  obtain ⟨a1, g1⟩ := (Rd.w (rd_int Try.underlying3)) _ _ _ _ _ _ _ _ _ f1 k1
  obtain ⟨a2, g2⟩ := (Rd.w (rd_int Try.underlying3)) _ _ _ _ _ _ _ _ _ f2 k2
  obtain ⟨a3, g3⟩ := (Rd.w (rd_int Try.underlying3)) _ _ _ _ _ _ _ _ _ f3 k3
  obtain ⟨a4, g4⟩ := rd_Ints _ _ _ _ _ _ _ _ _ f4 k4
  obtain ⟨a5, g5⟩ := (Rd.w (rd_bool Try.underlying4)) _ _ _ _ _ _ _ _ _ f5 k5
  obtain ⟨e0, i0⟩ := g0; obtain ⟨e1, i1⟩ := g1; obtain ⟨e2, i2⟩ := g2; obtain ⟨e3, i3⟩ := g3; obtain ⟨v4, e4, i4, r4⟩ := g4; have e5 : [c5] = [Value.bool a5] := g5; cases e0; cases e1; cases e2; cases e3; cases e4; cases e5; exact ⟨⟨a0, a1, a2, a3, a4, a5⟩, _, rfl, i0, i1, i2, i3, i4, r4⟩
theorem rd_Knds : RdW Try.prog 24 (fun w cs (l : List Knd) => ∃ v, cs = [v] ∧ Sl w 6 RKnd v l ∧ l.length * 72 ≤ 140737488351232) := rdw_slice rd_Knd (by kernel_rfl) (by decide) Try.underlying24 (by kernel_rfl)
theorem rd_CrewS : RdW Try.prog 26 RCrewS := by
  intro H enc w base spare held fuel cs x h hW
  obtain ⟨n, c0, c1, c2, rfl, ⟨y0, f0, k0⟩, ⟨y1, f1, k1⟩, ⟨y2, f2, k2⟩⟩ := rdF26 h hW
  obtain ⟨a0, g0⟩ := rd_Oprs _ _ _ _ _ _ _ _ _ f0 k0
  obtain ⟨a1, g1⟩ := rd_Nams _ _ _ _ _ _ _ _ _ f1 k1
  obtain ⟨a2, g2⟩ := rd_Knds _ _ _ _ _ _ _ _ _ f2 k2
  obtain ⟨v0, e0, i0, r0⟩ := g0; obtain ⟨v1, e1, i1, r1⟩ := g1; obtain ⟨v2, e2, i2, r2⟩ := g2; cases e0; cases e1; cases e2; exact ⟨⟨a0, a1, a2⟩, ⟨_, _, _, rfl, i0.mono (fun _ _ h => h.1), i1, i2, r0⟩, sl_all i0 (fun _ _ h => h.2)⟩
theorem rd_Crew : RdW Try.prog 26 RCrew := fun H enc w base spare held fuel cs x h hW => by obtain ⟨a, h⟩ := rd_CrewS H enc w base spare held fuel cs x h hW; exact ⟨a, h.1⟩
theorem rd_Act : RdW Try.prog 53 RAct := by
  intro H enc w base spare held fuel cs x h hW
  obtain ⟨n, c0, c1, c2, c3, c4, c5, rfl, ⟨y0, f0, k0⟩, ⟨y1, f1, k1⟩, ⟨y2, f2, k2⟩, ⟨y3, f3, k3⟩, ⟨y4, f4, k4⟩, ⟨y5, f5, k5⟩⟩ := rdF53 h hW
  obtain ⟨a0, g0⟩ := (Rd.w (rd_int Try.underlying3)) _ _ _ _ _ _ _ _ _ f0 k0
  obtain ⟨a1, g1⟩ := (Rd.w (rd_int Try.underlying3)) _ _ _ _ _ _ _ _ _ f1 k1
  obtain ⟨a2, g2⟩ := (Rd.w (rd_int Try.underlying3)) _ _ _ _ _ _ _ _ _ f2 k2
  obtain ⟨a3, g3⟩ := (Rd.w (rd_int Try.underlying3)) _ _ _ _ _ _ _ _ _ f3 k3
  obtain ⟨a4, g4⟩ := (Rd.w (rd_int Try.underlying3)) _ _ _ _ _ _ _ _ _ f4 k4
  obtain ⟨a5, g5⟩ := (Rd.w (rd_int Try.underlying3)) _ _ _ _ _ _ _ _ _ f5 k5
  obtain ⟨e0, i0⟩ := g0; obtain ⟨e1, i1⟩ := g1; obtain ⟨e2, i2⟩ := g2; obtain ⟨e3, i3⟩ := g3; obtain ⟨e4, i4⟩ := g4; obtain ⟨e5, i5⟩ := g5; cases e0; cases e1; cases e2; cases e3; cases e4; cases e5; exact ⟨⟨a0, a1, a2, a3, a4, a5⟩, rfl, i0, i1, i2, i3, i4, i5⟩
theorem rd_Acts : RdW Try.prog 37 (fun w cs (l : List Acn) => ∃ v, cs = [v] ∧ Sl w 6 RAct v l ∧ l.length * 48 ≤ 140737488351232) := rdw_slice rd_Act (by kernel_rfl) (by decide) Try.underlying37 (by kernel_rfl)
theorem rd_Stp : RdW Try.prog 89 RStp := by
  intro H enc w base spare held fuel cs x h hW
  obtain ⟨n, c0, c1, c2, c3, c4, rfl, ⟨y0, f0, k0⟩, ⟨y1, f1, k1⟩, ⟨y2, f2, k2⟩, ⟨y3, f3, k3⟩, ⟨y4, f4, k4⟩⟩ := rdF89 h hW
  obtain ⟨a0, g0⟩ := (Rd.w (rd_int Try.underlying3)) _ _ _ _ _ _ _ _ _ f0 k0
  obtain ⟨a1, g1⟩ := (Rd.w (rd_int Try.underlying3)) _ _ _ _ _ _ _ _ _ f1 k1
  obtain ⟨a2, g2⟩ := (Rd.w (rd_int Try.underlying3)) _ _ _ _ _ _ _ _ _ f2 k2
  obtain ⟨a3, g3⟩ := (Rd.w (rd_int Try.underlying3)) _ _ _ _ _ _ _ _ _ f3 k3
  obtain ⟨a4, g4⟩ := (Rd.w (rd_int Try.underlying3)) _ _ _ _ _ _ _ _ _ f4 k4
  obtain ⟨e0, i0⟩ := g0; obtain ⟨e1, i1⟩ := g1; obtain ⟨e2, i2⟩ := g2; obtain ⟨e3, i3⟩ := g3; obtain ⟨e4, i4⟩ := g4; cases e0; cases e1; cases e2; cases e3; cases e4; exact ⟨⟨a0, a1, a2, a3, a4⟩, rfl, i0, i1, i2, i3, i4⟩
theorem rd_Stps : RdW Try.prog 27 (fun w cs (l : List Stp) => ∃ v, cs = [v] ∧ Sl w 5 RStp v l ∧ l.length * 40 ≤ 140737488351232) := rdw_slice rd_Stp (by kernel_rfl) (by decide) Try.underlying27 (by kernel_rfl)
theorem rd_Scr : RdW Try.prog 29 RScr := by
  intro H enc w base spare held fuel cs x h hW
  obtain ⟨n, c0, c1, rfl, ⟨y0, f0, k0⟩, ⟨y1, f1, k1⟩⟩ := rdF29 h hW
  obtain ⟨a0, g0⟩ := (Rd.w (rd_str Try.underlying9)) _ _ _ _ _ _ _ _ _ f0 k0
  obtain ⟨a1, g1⟩ := rd_Stps _ _ _ _ _ _ _ _ _ f1 k1
  obtain ⟨e0, i0⟩ := g0; obtain ⟨v1, e1, i1, r1⟩ := g1; cases e0; cases e1; exact ⟨⟨a0, a1⟩, _, rfl, i0, i1⟩
theorem rd_Drl : RdW Try.prog 39 RDrl := by
  intro H enc w base spare held fuel cs x h hW
  obtain ⟨n, c0, c1, c2, c3, rfl, ⟨y0, f0, k0⟩, ⟨y1, f1, k1⟩, ⟨y2, f2, k2⟩⟩ := rdF39 h hW
  obtain ⟨a0, g0⟩ := rd_Scr _ _ _ _ _ _ _ _ _ f0 k0
  obtain ⟨a1, g1⟩ := (Rd.w (rd_int Try.underlying3)) _ _ _ _ _ _ _ _ _ f1 k1
  obtain ⟨a2, g2⟩ := rd_Acts _ _ _ _ _ _ _ _ _ f2 k2
  obtain ⟨v0, e0, i0, j0⟩ := g0; obtain ⟨e1, i1⟩ := g1; obtain ⟨v2, e2, i2, r2⟩ := g2; cases e0; cases e1; cases e2; exact ⟨⟨a0, a1, a2⟩, _, _, rfl, i0, j0, i1, i2⟩
theorem rd_Mor : RdW Try.prog 68 RMor := by
  intro H enc w base spare held fuel cs x h hW
  obtain ⟨n, c0, c1, c2, c3, rfl, ⟨y0, f0, k0⟩, ⟨y1, f1, k1⟩, ⟨y2, f2, k2⟩⟩ := rdF68 h hW
  obtain ⟨a0, g0⟩ := (Rd.w (rd_u8 Try.underlying5)) _ _ _ _ _ _ _ _ _ f0 k0
  obtain ⟨a1, g1⟩ := rd_Spn _ _ _ _ _ _ _ _ _ f1 k1
  obtain ⟨a2, g2⟩ := (Rd.w (rd_u8 Try.underlying5)) _ _ _ _ _ _ _ _ _ f2 k2
  obtain ⟨e0, i0⟩ := g0; obtain ⟨e1, i1⟩ := g1; obtain ⟨e2, i2⟩ := g2; cases e0; cases e1; cases e2; exact ⟨⟨a0, a1, a2⟩, rfl, i0, i1, i2⟩
theorem rd_Xtr : RdW Try.prog 70 RXtr := by
  intro H enc w base spare held fuel cs x h hW
  obtain ⟨n, c0, c1, c2, c3, c4, c5, rfl, ⟨y0, f0, k0⟩, ⟨y1, f1, k1⟩, ⟨y2, f2, k2⟩⟩ := rdF70 h hW
  obtain ⟨a0, g0⟩ := rd_Mor _ _ _ _ _ _ _ _ _ f0 k0
  obtain ⟨a1, g1⟩ := (Rd.w (rd_int Try.underlying3)) _ _ _ _ _ _ _ _ _ f1 k1
  obtain ⟨a2, g2⟩ := (Rd.w (rd_int Try.underlying3)) _ _ _ _ _ _ _ _ _ f2 k2
  obtain ⟨e0, i0, j0, l0⟩ := g0; obtain ⟨e1, i1⟩ := g1; obtain ⟨e2, i2⟩ := g2; cases e0; cases e1; cases e2; exact ⟨⟨a0.who, a0.sp, a0.gr, a1, a2⟩, rfl, i0, j0, l0, i1, i2⟩
theorem rd_TwoI : RdW Try.prog 80 RTwoI := by
  intro H enc w base spare held fuel cs x h hW
  obtain ⟨n, c0, c1, rfl, ⟨y0, f0⟩, ⟨y1, f1⟩⟩ := rdF80 h
  obtain ⟨a0, e0, i0⟩ := rd_int Try.underlying3 _ _ _ _ _ _ _ _ _ f0
  obtain ⟨a1, e1, i1⟩ := rd_int Try.underlying3 _ _ _ _ _ _ _ _ _ f1
  cases e0; cases e1; exact ⟨(a0, a1), rfl, i0, i1⟩
end Go.Proofs.Ytghgnofilbnbaaa
