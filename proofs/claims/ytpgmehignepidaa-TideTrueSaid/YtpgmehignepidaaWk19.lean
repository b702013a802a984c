/- Walks, part Wk19. -/
import Derived.Test.YtpgmehignepidaaWk18
import Derived.Test.YtpgmehignepidaaP13
set_option linter.all false
namespace Go.Proofs.Ytpgmehignepidaa
open Go Bx
set_option maxHeartbeats 8000000 in
/-- barrage/barragelaw01.made -/
theorem c_made {g : Gauge} {cs xs : List Value} {x : Truth} {w0 : World} (hg : RGauge w0 cs g) (hx : RTruth w0 xs x) : CE Try.prog 31 #[.agg cs.toArray, .agg xs.toArray] w0 (fun v w' => (v = .tuple #[.slice none 0 0, .agg cs.toArray, .bool false] ∧ Ext w0 w') ∨ ∃ lvv rv K, v = .tuple #[lvv, .agg (cs.set 4 rv).toArray, .bool true] ∧ TruthOk x ∧ K ≤ 60 ∧ (∀ i, i < K → atS x.gaps i < x.moves.length + 1) ∧ St w0 w' [rowI rv 103 2 K ((mkRs g x K).flatMap readC), rowI lvv 3 1 (x.moves.length + 1) ((lvsK g.rate x.level x.moves x.moves.length).flatMap encI)]) := by
  obtain ⟨dv, rv, rfl, hnm, hge, hgr, hsd, hsr⟩ := id hg
  obtain ⟨a, cap, rfl, hcap, hmx, hel⟩ := id hsd
  obtain ⟨a2, cap2, rfl, hcap2, hmx2, hel2⟩ := id hsr
  obtain ⟨mv, gv, sv, ev, rfl, hxs, hxl, hmv, hgv, hsv, hev⟩ := id hx
  obtain ⟨am, capm, rfl, hcapm, hmxm, helm⟩ := id hmv
  obtain ⟨ag, capg, rfl, hcapg, hmxg, helg⟩ := id hgv
  obtain ⟨ah, caph, rfl, hcaph, hmxh, helh⟩ := id hsv
  obtain ⟨ae, cape, rfl, hcape, hmxe, hele⟩ := id hev
  refine enter Try.func31 rfl Try.ntmps31 rfl ?_
  have hS := St.start w0
  refine seq ?_
  refine region ?_
  refine sbox hS rfl rfl ?_; clear hS; intro b2 w hS
  refine sbox hS rfl rfl ?_; clear hS; intro b3 w hS
  refine sv (yAsg rfl) ?_
  refine salloc hS Try.zeroValue34 rfl ?_; clear hS; intro b5 w hS
  refine sv (yAsg rfl) ?_
  refine nil ?_
  show Code.wp _ _ _ _ _
  refine seq ?_
  refine seq ?_
  refine region ?_
  refine sv (fa53_0 rfl) ?_
  refine sv (yLdB rfl Try.isAgg3 (hS.at _) rfl) ?_
  refine sv (yLss rfl rfl) ?_
  refine sv (yMove rfl) ?_
  refine sg rfl rfl rfl (fun g => (fa53_0 rfl)) (fun v20 g20 => ?_)
  refine sg rfl rfl rfl (fun g => (yLdB (g20.1 g) Try.isAgg3 (hS.at _) rfl)) (fun v21 g21 => ?_)
  refine sg rfl rfl rfl (fun g => (yGtr (g21.1 g) rfl)) (fun v22 g22 => ?_)
  refine sv (yOr rfl rfl (fun hB => (g22.1 hB))) ?_
  refine sv (yMove rfl) ?_
  refine sg rfl rfl rfl (fun g => (fa53_2 rfl)) (fun v25 g25 => ?_)
  refine sg rfl rfl rfl (fun g => (yLdB (g25.1 g) Try.isAgg42 (hS.at _) rfl)) (fun v26 g26 => ?_)
  refine sg rfl rfl rfl (fun g => (yLen (g26.1 g) Try.underlying42)) (fun v27 g27 => ?_)
  refine sg rfl rfl rfl (fun g => (yGeq (g27.1 g) rfl)) (fun v28 g28 => ?_)
  refine sv (yOr rfl rfl (fun hB => (g28.1 hB))) ?_
  refine sv (yMove rfl) ?_
  refine sg rfl rfl rfl (fun g => (fa53_1 rfl)) (fun v31 g31 => ?_)
  refine sg rfl rfl rfl (fun g => (yLdB (g31.1 g) Try.isAgg3 (hS.at _) rfl)) (fun v32 g32 => ?_)
  refine sg rfl rfl rfl (fun g => (yLss (g32.1 g) rfl)) (fun v33 g33 => ?_)
  refine sv (yOr rfl rfl (fun hB => (g33.1 hB))) ?_
  refine sv (yMove rfl) ?_
  refine sg rfl rfl rfl (fun g => (fa53_1 rfl)) (fun v36 g36 => ?_)
  refine sg rfl rfl rfl (fun g => (yLdB (g36.1 g) Try.isAgg3 (hS.at _) rfl)) (fun v37 g37 => ?_)
  refine sg rfl rfl rfl (fun g => (yGtr (g37.1 g) rfl)) (fun v38 g38 => ?_)
  refine sv (yOr rfl rfl (fun hB => (g38.1 hB))) ?_
  refine nil ?_
  show Code.wp _ _ _ _ _
  refine cond rfl (fun c39 => ?_) (fun c39 => ?_)
  ·
    simp only [Bool.and_eq_true, Bool.or_eq_true, Bool.and_eq_false_iff, Bool.or_eq_false_iff, decide_eq_true_eq, decide_eq_false_iff_not, Bool.not_eq_true, Bool.not_eq_false, Bool.not_not, Bool.not_eq_eq_eq_not, Bool.not_true, Bool.not_false, Bool.false_eq_true, Bool.true_eq_false, ne_eq, Decidable.not_not, not_false_eq_true, not_true_eq_false] at c39
    refine seq ?_
    refine region_tail mixed 2 (by kernel_rfl) hS ?_
    refine qv (fun w hS => (yLdBA rfl Try.isAgg34 Try.sizeOf34 (hS.at _) rfl rfl)) ?_
    refine qv (fun w hS => (yAsg rfl)) ?_
    clear hS; refine qtl (fun w hS => ?_)
    refine sst hS rfl rfl Try.sizeOf34 rfl rfl rfl rfl ?_; clear hS; intro w hS
    refine sv (yAsg rfl) ?_
    refine nil ?_
    show Code.wp _ _ _ _ _
    refine wp_ret (thenR ?_)
    refine retQ (resV3 rfl (rt rfl) (rc rfl Try.isAgg34 Try.sizeOf34 (hS.at _) rfl rfl) (rt rfl)) ?_
    exact .inl ⟨rfl, hS.ext⟩
  ·
    simp only [Bool.and_eq_true, Bool.or_eq_true, Bool.and_eq_false_iff, Bool.or_eq_false_iff, decide_eq_true_eq, decide_eq_false_iff_not, Bool.not_eq_true, Bool.not_eq_false, Bool.not_not, Bool.not_eq_eq_eq_not, Bool.not_true, Bool.not_false, Bool.false_eq_true, Bool.true_eq_false, ne_eq, Decidable.not_not, not_false_eq_true, not_true_eq_false] at c39
    obtain ⟨⟨⟨⟨ht1, ht2⟩, ht3⟩, ht4⟩, ht5⟩ := c39
    have htr : TruthOk x := ⟨⟨by omega, by omega⟩, by omega, ⟨by omega, by omega⟩⟩
    refine skip ?_
    show Code.wp _ _ _ _ _
    refine seq ?_
    refine region ?_
    refine sv (fa53_1 rfl) ?_
    refine sv (yLdB rfl Try.isAgg3 (hS.at _) rfl) ?_
    refine sbslice hS Try.underlying44 Try.sizeOf3 rfl Try.zeroValue3 rfl (.cons rfl rfl .nil) rfl ?_; clear hS; intro b43 w hS
    replace hS := hS.toRow 1 1 rfl (by decide)
    refine sv (yAsg rfl) ?_
    refine nil ?_
    show Code.wp _ _ _ _ _
    refine seq ?_
    refine seq ?_
    refine region ?_
    refine sv (yAsg rfl) ?_
    refine nil ?_
    show Code.wp _ _ _ _ _
    refine block ?_
    refine loop (fun f w zz => ∃ (k : Nat) (v : Value), f 2 = .pointer (some ⟨b2, 0, none⟩) ∧ f 3 = .pointer (some ⟨b3, 0, none⟩) ∧ f 5 = .pointer (some ⟨b5, 0, none⟩) ∧ f 7 = v ∧ f 8 = .int .i64 (k : Int) ∧ St w0 w [rowI v 3 1 (k + 1) ((lvsK g.rate x.level x.moves k).flatMap encI), blk b5 [.string ⟨#[]⟩, .int .i64 0, .int .i64 0, .slice none 0 0, .slice none 0 0] 34, blk b3 [.int .i64 x.start, .int .i64 x.level, .slice am x.moves.length capm, .slice ag x.gaps.length capg, .slice ah x.shifts.length caph, .slice ae x.errs.length cape] 53, blk b2 [.string g.name, .int .i64 g.err, .int .i64 g.rate, .slice a g.datums.length cap, .slice a2 g.readings.length cap2] 34] ∧ (k ≤ x.moves.length) ∧ zz = x.moves.length - k) _ ⟨_, rfl, 0, _, rfl, rfl, rfl, rfl, rfl, hS, (Nat.zero_le _), rfl⟩ ?_
    clear hS
    rintro f w _ ⟨k, v, h2, h3, h5, h7, h8, hS, hk, rfl⟩
    obtain ⟨av, capv, rfl⟩ := row_shape (hS.row v)
    refine seq ?_
    refine seq ?_
    refine region ?_
    refine sv (yMove h8) ?_
    refine sv (fa53_2 h3) ?_
    refine sv (yLdB rfl Try.isAgg42 (hS.at _) rfl) ?_
    refine sv (yLen rfl Try.underlying42) ?_
    refine sv (yLss rfl rfl) ?_
    refine nil ?_
    show Code.wp _ _ _ _ _
    refine cond rfl (fun c48 => ?_) (fun c48 => ?_)
    ·
      simp only [Bool.and_eq_true, Bool.or_eq_true, Bool.and_eq_false_iff, Bool.or_eq_false_iff, decide_eq_true_eq, decide_eq_false_iff_not, Bool.not_eq_true, Bool.not_eq_false, Bool.not_not, Bool.not_eq_eq_eq_not, Bool.not_true, Bool.not_false, Bool.false_eq_true, Bool.true_eq_false, ne_eq, Decidable.not_not, not_false_eq_true, not_true_eq_false] at c48
      obtain ⟨e, hxm, _⟩ := drop_of (l := x.moves) (k := k) (by omega)
      obtain ⟨bm, om, csm, ham, hlenm, hcsm, hRm⟩ := helm (k) (by omega)
      obtain rfl : e = x.moves[k] := (List.getElem?_eq_some_iff.1 hxm).2.symm
      generalize x.moves[k] = e at hxm hRm
      obtain ⟨rfl, hlom, hhim⟩ := hRm
      have hgdm := getD_hit (d := (0 : Int)) hxm
      obtain ⟨gv, hav, _⟩ := row_get (hS.row (.slice av (k + 1) capv)) (by omega)
      have hnx : lvS g.rate x.level x.moves (k + 1) = nextL g.rate (lvS g.rate x.level x.moves k) e := by rw [← hgdm]; rfl
      refine skip ?_
      show Code.wp _ _ _ _ _
      refine seq ?_
      refine block ?_
      refine seq ?_
      refine region_draw mixed (by kernel_rfl) hS ?_
      refine qv (fun w hS => (yMove h7)) ?_
      refine qv (fun w hS => (yMove h8)) ?_
      refine qv (fun w hS => (yIxa rfl hav rfl Try.runUnderlying44 Try.sizeOf3 (by omega) (by omega))) ?_
      refine qv (fun w hS => (yLd rfl Try.isAgg3 ((flat_cells encI_len (row_at (hS.row (.slice av (k + 1) capv)) hav (by omega)) (lvsK_get (Nat.le_refl k))).one))) ?_
      refine qv (fun w hS => (fa34_2 h2)) ?_
      refine qv (fun w hS => (yLdB rfl Try.isAgg3 (hS.at _) rfl)) ?_
      refine qv (fun w hS => (fa53_2 h3)) ?_
      refine qv (fun w hS => (yLdB rfl Try.isAgg42 (hS.at _) rfl)) ?_
      refine qv (fun w hS => (yMove h8)) ?_
      refine qv (fun w hS => (yIxa rfl ham rfl Try.runUnderlying42 Try.sizeOf47 (by omega) (by omega))) ?_
      refine qv (fun w hS => (yLd rfl Try.isAgg47 ((hcsm.ext hS.ext).one))) ?_
      refine qv (fun w hS => (yToI rfl Try.underlying47 Try.underlying3 ⟨by omega, by omega⟩)) ?_
      refine qv (fun w hS => (yMax rfl rfl)) ?_
      refine qv (fun w hS => (yMulW rfl rfl)) ?_
      refine qv (fun w hS => (yQuoC rfl rfl (by decide) (w64_i64 _))) ?_
      refine qv (fun w hS => (yAddW rfl rfl)) ?_
      refine qv (fun w hS => (yAsg rfl)) ?_
      clear hS; refine qnil (fun w hS => ?_)
      show Code.wp _ _ _ _ _
      refine region ?_
      refine sv (yMove h7) ?_
      refine sv (yMove rfl) ?_
      refine sv (yMin rfl rfl) ?_
      refine sv (yMax rfl rfl) ?_
      refine sbslice hS Try.underlying44 Try.sizeOf3 rfl Try.zeroValue3 rfl (.cons rfl rfl .nil) rfl ?_; clear hS; intro b71 w hS
      refine sapp (bytes := 8) (size := 1) (v := (.slice av (k + 1) capv)) (m := 1) hS rfl rfl Try.underlying44 ti3 rfl rfl rfl rfl (by decide) (blk_cells (hS.at _)) rfl rfl (by omega) (by omega) ?_; clear hS; intro v72 w hS
      refine sv (yAsg rfl) ?_
      refine nil ?_
      show Code.wp _ _ _ _ _
      refine region ?_
      refine sv (yMove h8) ?_
      refine sv (yAdd rfl rfl ⟨by omega, by omega⟩) ?_
      refine sv (yAsg rfl) ?_
      refine nil ?_
      exact ⟨_, _, rfl, ⟨k + 1, _, h2, h3, h5, rfl, rfl, (by rw [lvsK_succ, List.flatMap_append, hnx]; exact hS.sub (.cons _ (List.Sublist.refl _))), (by omega), rfl⟩, by omega⟩
    ·
      simp only [Bool.and_eq_true, Bool.or_eq_true, Bool.and_eq_false_iff, Bool.or_eq_false_iff, decide_eq_true_eq, decide_eq_false_iff_not, Bool.not_eq_true, Bool.not_eq_false, Bool.not_not, Bool.not_eq_eq_eq_not, Bool.not_true, Bool.not_false, Bool.false_eq_true, Bool.true_eq_false, ne_eq, Decidable.not_not, not_false_eq_true, not_true_eq_false] at c48
      obtain rfl : k = x.moves.length := by omega
      refine exit ?_
      show Code.wp _ _ _ _ _
      refine seq ?_
      refine region ?_
      refine sv (fa34_4 h2) ?_
      refine sst hS rfl rfl Try.sizeOf32 rfl rfl rfl rfl ?_; clear hS; intro w hS
      refine nil ?_
      show Code.wp _ _ _ _ _
      refine seq ?_
      refine region ?_
      refine sv (yAsg rfl) ?_
      refine nil ?_
      show Code.wp _ _ _ _ _
      refine seq ?_
      refine seq ?_
      refine region ?_
      refine sv (yAsg rfl) ?_
      refine nil ?_
      show Code.wp _ _ _ _ _
      refine block ?_
      refine loop (fun f w zz => ∃ (k : Nat) (rv : Value), f 2 = .pointer (some ⟨b2, 0, none⟩) ∧ f 3 = .pointer (some ⟨b3, 0, none⟩) ∧ f 5 = .pointer (some ⟨b5, 0, none⟩) ∧ f 7 = .slice av (x.moves.length + 1) capv ∧ f 10 = .int .i64 (atP x.gaps k) ∧ f 11 = .int .i64 (k : Int) ∧ St w0 w [rowI rv 103 2 k ((mkRs g x k).flatMap readC), rowI (.slice av (x.moves.length + 1) capv) 3 1 (x.moves.length + 1) ((lvsK g.rate x.level x.moves x.moves.length).flatMap encI), blk b5 [.string ⟨#[]⟩, .int .i64 0, .int .i64 0, .slice none 0 0, .slice none 0 0] 34, blk b3 [.int .i64 x.start, .int .i64 x.level, .slice am x.moves.length capm, .slice ag x.gaps.length capg, .slice ah x.shifts.length caph, .slice ae x.errs.length cape] 53, blk b2 [.string g.name, .int .i64 g.err, .int .i64 g.rate, .slice a g.datums.length cap, rv] 34] ∧ (k ≤ x.gaps.length) ∧ (k ≤ 60) ∧ (∀ i, i < k → atS x.gaps i < x.moves.length + 1) ∧ (Bd (atP x.gaps k) 0 150) ∧ zz = x.gaps.length - k) _ ⟨_, rfl, 0, _, h2, h3, h5, h7, rfl, rfl, ((hS.nilrow 103 2).sub (.cons_cons _ (List.Sublist.refl _))), (Nat.zero_le _), (Nat.zero_le _), (fun i hi => absurd hi (Nat.not_lt_zero i)), (show Bd (0 : Int) 0 150 by decide), rfl⟩ ?_
      clear hS
      rintro f w _ ⟨k, rv, h2, h3, h5, h7, h10, h11, hS, hk, hk6, hat, hap, rfl⟩
      refine seq ?_
      refine seq ?_
      refine region ?_
      refine sv (yMove h11) ?_
      refine sv (fa53_3 h3) ?_
      refine sv (yLdB rfl Try.isAgg51 (hS.at _) rfl) ?_
      refine sv (yLen rfl Try.underlying51) ?_
      refine sv (yLss rfl rfl) ?_
      refine sv (yMove rfl) ?_
      refine sg rfl rfl rfl (fun g => (yMove h11)) (fun v80 g80 => ?_)
      refine sg rfl rfl rfl (fun g => (yLss (g80.1 g) rfl)) (fun v81 g81 => ?_)
      refine sv (yAnd rfl (fun hB => (g81.1 hB)) rfl) ?_
      refine nil ?_
      show Code.wp _ _ _ _ _
      refine cond rfl (fun c82 => ?_) (fun c82 => ?_)
      ·
        simp only [Bool.and_eq_true, Bool.or_eq_true, Bool.and_eq_false_iff, Bool.or_eq_false_iff, decide_eq_true_eq, decide_eq_false_iff_not, Bool.not_eq_true, Bool.not_eq_false, Bool.not_not, Bool.not_eq_eq_eq_not, Bool.not_true, Bool.not_false, Bool.false_eq_true, Bool.true_eq_false, ne_eq, Decidable.not_not, not_false_eq_true, not_true_eq_false] at c82
        obtain ⟨e, hxg, _⟩ := drop_of (l := x.gaps) (k := k) (by omega)
        obtain ⟨bg, og, csg, hag, hleng, hcsg, hRg⟩ := helg (k) (by omega)
        obtain rfl : e = x.gaps[k] := (List.getElem?_eq_some_iff.1 hxg).2.symm
        generalize x.gaps[k] = e at hxg hRg
        obtain ⟨rfl, hlog, hhig⟩ := hRg
        have hgdg := getD_hit (d := (0 : Int)) hxg
        have hah0 := atS_here (k := k) hgdg
        have hs0 := atS_nonneg (gaps := x.gaps) k
        have hem := Int.emod_nonneg e (show (8 : Int) ≠ 0 by decide)
        have hem2 := Int.emod_lt_of_pos e (show (0 : Int) < 8 by decide)
        refine skip ?_
        show Code.wp _ _ _ _ _
        refine seq ?_
        refine block ?_
        refine seq ?_
        refine region ?_
        refine sv (yMove h10) ?_
        refine sv (fa53_3 h3) ?_
        refine sv (yLdB rfl Try.isAgg51 (hS.at _) rfl) ?_
        refine sv (yMove h11) ?_
        refine sv (yIxa rfl hag rfl Try.runUnderlying51 Try.sizeOf5 (by omega) (by omega)) ?_
        refine sv (yLd rfl Try.isAgg5 ((hcsg.ext hS.ext).one)) ?_
        refine sv (yToI rfl Try.underlying5 Try.underlying3 ⟨by omega, by omega⟩) ?_
        refine sv (yRemP rfl rfl (by omega) (by decide)) ?_
        refine sv (yAdd rfl rfl ⟨by omega, by omega⟩) ?_
        refine sv (yAsg rfl) ?_
        refine nil ?_
        show Code.wp _ _ _ _ _
        refine seqJ (n := 191) (fun f w => f 2 = .pointer (some ⟨b2, 0, none⟩) ∧ f 3 = .pointer (some ⟨b3, 0, none⟩) ∧ f 5 = .pointer (some ⟨b5, 0, none⟩) ∧ f 7 = .slice av (x.moves.length + 1) capv ∧ f 10 = .int .i64 (atS x.gaps k) ∧ f 11 = .int .i64 (k : Int) ∧ StX [] w0 w [rowI rv 103 2 k ((mkRs g x k).flatMap readC), rowI (.slice av (x.moves.length + 1) capv) 3 1 (x.moves.length + 1) ((lvsK g.rate x.level x.moves x.moves.length).flatMap encI), blk b5 [.string ⟨#[]⟩, .int .i64 0, .int .i64 0, .slice none 0 0, .slice none 0 0] 34, blk b3 [.int .i64 x.start, .int .i64 x.level, .slice am x.moves.length capm, .slice ag x.gaps.length capg, .slice ah x.shifts.length caph, .slice ae x.errs.length cape] 53, blk b2 [.string g.name, .int .i64 g.err, .int .i64 g.rate, .slice a g.datums.length cap, rv] 34] ∧ True) ?_ ?_
        ·
          refine seq ?_
          refine region ?_
          refine sv (yMove h11) ?_
          refine sv (yGtr rfl rfl) ?_
          refine nil ?_
          show Code.wp _ _ _ _ _
          refine cond rfl (fun c95 => ?_) (fun c95 => ?_)
          ·
            simp only [Bool.and_eq_true, Bool.or_eq_true, Bool.and_eq_false_iff, Bool.or_eq_false_iff, decide_eq_true_eq, decide_eq_false_iff_not, Bool.not_eq_true, Bool.not_eq_false, Bool.not_not, Bool.not_eq_eq_eq_not, Bool.not_true, Bool.not_false, Bool.false_eq_true, Bool.true_eq_false, ne_eq, Decidable.not_not, not_false_eq_true, not_true_eq_false] at c95
            refine region ?_
            refine sv (yMove rfl) ?_
            refine sv (yAdd rfl rfl ⟨by omega, by omega⟩) ?_
            refine sv (yAsg rfl) ?_
            refine nil ?_
            exact ⟨_, rfl, h2, h3, h5, h7, (eqI (by rw [hah0, if_pos c95])), h11, hS, trivial⟩
          ·
            simp only [Bool.and_eq_true, Bool.or_eq_true, Bool.and_eq_false_iff, Bool.or_eq_false_iff, decide_eq_true_eq, decide_eq_false_iff_not, Bool.not_eq_true, Bool.not_eq_false, Bool.not_not, Bool.not_eq_eq_eq_not, Bool.not_true, Bool.not_false, Bool.false_eq_true, Bool.true_eq_false, ne_eq, Decidable.not_not, not_false_eq_true, not_true_eq_false] at c95
            refine skip ?_
            exact ⟨_, rfl, h2, h3, h5, h7, (eqI (by rw [hah0, if_neg c95])), h11, hS, trivial⟩
        ·
          clear hS; rintro f w ⟨h2, h3, h5, h7, h10, h11, hS, -⟩
          refine seq ?_
          refine seq ?_
          refine region ?_
          refine sv (yMove h10) ?_
          refine sv (yMove h7) ?_
          refine sv (yLen rfl Try.underlying44) ?_
          refine sv (yGeq rfl rfl) ?_
          refine nil ?_
          show Code.wp _ _ _ _ _
          refine cond rfl (fun c101 => ?_) (fun c101 => ?_)
          ·
            simp only [Bool.and_eq_true, Bool.or_eq_true, Bool.and_eq_false_iff, Bool.or_eq_false_iff, decide_eq_true_eq, decide_eq_false_iff_not, Bool.not_eq_true, Bool.not_eq_false, Bool.not_not, Bool.not_eq_eq_eq_not, Bool.not_true, Bool.not_false, Bool.false_eq_true, Bool.true_eq_false, ne_eq, Decidable.not_not, not_false_eq_true, not_true_eq_false] at c101
            refine exit ?_
            show Code.wp _ _ _ _ _
            refine seq ?_
            refine region_tail mixed 3 (by kernel_rfl) hS ?_
            obtain ⟨ar, capr, rfl⟩ := row_shape (hS.row rv)
            refine qv (fun w hS => (yMove h7)) ?_
            refine qv (fun w hS => (yLdBA h2 Try.isAgg34 Try.sizeOf34 (hS.at _) rfl rfl)) ?_
            refine qv (fun w hS => (yAsg rfl)) ?_
            clear hS; refine qtl (fun w hS => ?_)
            refine sst hS h5 rfl Try.sizeOf34 rfl rfl rfl rfl ?_; clear hS; intro w hS
            refine sv (yAsg rfl) ?_
            refine nil ?_
            show Code.wp _ _ _ _ _
            refine wp_ret ?_
            refine retQ (resV3 rfl (rt rfl) (rc h5 Try.isAgg34 Try.sizeOf34 (hS.at _) rfl rfl) (rt rfl)) ?_
            refine .inr ⟨_, _, k, rfl, htr, hk6, hat, ?_⟩
            exact hS.sub (.cons_cons _ (.cons_cons _ (List.nil_sublist _)))
          ·
            simp only [Bool.and_eq_true, Bool.or_eq_true, Bool.and_eq_false_iff, Bool.or_eq_false_iff, decide_eq_true_eq, decide_eq_false_iff_not, Bool.not_eq_true, Bool.not_eq_false, Bool.not_not, Bool.not_eq_eq_eq_not, Bool.not_true, Bool.not_false, Bool.false_eq_true, Bool.true_eq_false, ne_eq, Decidable.not_not, not_false_eq_true, not_true_eq_false] at c101
            have c101 : atS x.gaps k < x.moves.length + 1 := by omega
            obtain ⟨n, hn⟩ := Int.eq_ofNat_of_zero_le hs0
            have htn : (atS x.gaps k).toNat = n := by rw [hn]; rfl
            obtain ⟨gv, hav, _⟩ := row_get (hS.row (.slice av (x.moves.length + 1) capv)) (by omega)
            refine skip ?_
            show Code.wp _ _ _ _ _
            refine seq ?_
            refine region ?_
            refine sv (yAsg rfl) ?_
            refine nil ?_
            show Code.wp _ _ _ _ _
            refine seq ?_
            refine seq ?_
            refine region ?_
            refine sv (yAsg rfl) ?_
            refine nil ?_
            show Code.wp _ _ _ _ _
            refine block ?_
            refine loop (fun f w zz => ∃ (j : Nat), f 2 = .pointer (some ⟨b2, 0, none⟩) ∧ f 3 = .pointer (some ⟨b3, 0, none⟩) ∧ f 5 = .pointer (some ⟨b5, 0, none⟩) ∧ f 7 = .slice av (x.moves.length + 1) capv ∧ f 10 = .int .i64 (atS x.gaps k) ∧ f 11 = .int .i64 (k : Int) ∧ f 12 = .int .i64 (datK g.datums (x.start + atS x.gaps k) j : Nat) ∧ f 13 = .int .i64 (j : Int) ∧ St w0 w [rowI rv 103 2 k ((mkRs g x k).flatMap readC), rowI (.slice av (x.moves.length + 1) capv) 3 1 (x.moves.length + 1) ((lvsK g.rate x.level x.moves x.moves.length).flatMap encI), blk b5 [.string ⟨#[]⟩, .int .i64 0, .int .i64 0, .slice none 0 0, .slice none 0 0] 34, blk b3 [.int .i64 x.start, .int .i64 x.level, .slice am x.moves.length capm, .slice ag x.gaps.length capg, .slice ah x.shifts.length caph, .slice ae x.errs.length cape] 53, blk b2 [.string g.name, .int .i64 g.err, .int .i64 g.rate, .slice a g.datums.length cap, rv] 34] ∧ (j ≤ g.datums.length) ∧ zz = g.datums.length - j) _ ⟨_, rfl, 0, h2, h3, h5, h7, h10, h11, rfl, rfl, hS, (Nat.zero_le _), rfl⟩ ?_
            clear hS
            rintro f w _ ⟨j, h2, h3, h5, h7, h10, h11, h12, h13, hS, hj, rfl⟩
            refine seq ?_
            refine seq ?_
            refine region ?_
            refine sv (yMove h13) ?_
            refine sv (fa34_3 h2) ?_
            refine sv (yLdB rfl Try.isAgg31 (hS.at _) rfl) ?_
            refine sv (yLen rfl Try.underlying31) ?_
            refine sv (yLss rfl rfl) ?_
            refine nil ?_
            show Code.wp _ _ _ _ _
            refine cond rfl (fun c106 => ?_) (fun c106 => ?_)
            ·
              simp only [Bool.and_eq_true, Bool.or_eq_true, Bool.and_eq_false_iff, Bool.or_eq_false_iff, decide_eq_true_eq, decide_eq_false_iff_not, Bool.not_eq_true, Bool.not_eq_false, Bool.not_not, Bool.not_eq_eq_eq_not, Bool.not_true, Bool.not_false, Bool.false_eq_true, Bool.true_eq_false, ne_eq, Decidable.not_not, not_false_eq_true, not_true_eq_false] at c106
              obtain ⟨d, hx, hd⟩ := drop_of (l := g.datums) (k := j) (by omega)
              obtain ⟨b, o, cs, ha, hlen, hcs, hR⟩ := hel (j) (by omega)
              obtain rfl : d = g.datums[j] := (List.getElem?_eq_some_iff.1 hx).2.symm
              generalize g.datums[j] = d at hx hd hR
              obtain ⟨rfl, hd1, hd2, hd3⟩ := hR
              refine skip ?_
              show Code.wp _ _ _ _ _
              refine seq ?_
              refine block ?_
              refine seq ?_
              refine region_draw mixed (by kernel_rfl) hS ?_
              refine qv (fun w hS => (fa34_3 h2)) ?_
              refine qv (fun w hS => (yLdB rfl Try.isAgg31 (hS.at _) rfl)) ?_
              refine qv (fun w hS => (yMove h13)) ?_
              refine qv (fun w hS => (yIxa rfl ha rfl Try.runUnderlying31 Try.sizeOf78 (by omega) (by omega))) ?_
              refine qv (fun w hS => (fa78_0 rfl)) ?_
              refine qv (fun w hS => (yLd rfl Try.isAgg3 ((hcs.ext hS.ext).at (j := 0) rfl))) ?_
              refine qv (fun w hS => (fa53_0 h3)) ?_
              refine qv (fun w hS => (yLdB rfl Try.isAgg3 (hS.at _) rfl)) ?_
              refine qv (fun w hS => (yMove h10)) ?_
              refine qv (fun w hS => (yAdd rfl rfl ⟨by omega, by omega⟩)) ?_
              refine qv (fun w hS => (yLeq rfl rfl)) ?_
              clear hS; refine qnil (fun w hS => ?_)
              show Code.wp _ _ _ _ _
              refine cond rfl (fun c119 => ?_) (fun c119 => ?_)
              ·
                simp only [Bool.and_eq_true, Bool.or_eq_true, Bool.and_eq_false_iff, Bool.or_eq_false_iff, decide_eq_true_eq, decide_eq_false_iff_not, Bool.not_eq_true, Bool.not_eq_false, Bool.not_not, Bool.not_eq_eq_eq_not, Bool.not_true, Bool.not_false, Bool.false_eq_true, Bool.true_eq_false, ne_eq, Decidable.not_not, not_false_eq_true, not_true_eq_false] at c119
                refine region ?_
                refine sv (yMove h13) ?_
                refine sv (yAsg rfl) ?_
                refine nil ?_
                show Code.wp _ _ _ _ _
                refine region ?_
                refine sv (yMove h13) ?_
                refine sv (yAdd rfl rfl ⟨by omega, by omega⟩) ?_
                refine sv (yAsg rfl) ?_
                refine nil ?_
                exact ⟨_, _, rfl, ⟨j + 1, h2, h3, h5, h7, h10, h11, (Eq.trans rfl (eqI (by rw [datK, getD_hit hx, if_pos c119]))), rfl, hS, (by omega), rfl⟩, by omega⟩
              ·
                simp only [Bool.and_eq_true, Bool.or_eq_true, Bool.and_eq_false_iff, Bool.or_eq_false_iff, decide_eq_true_eq, decide_eq_false_iff_not, Bool.not_eq_true, Bool.not_eq_false, Bool.not_not, Bool.not_eq_eq_eq_not, Bool.not_true, Bool.not_false, Bool.false_eq_true, Bool.true_eq_false, ne_eq, Decidable.not_not, not_false_eq_true, not_true_eq_false] at c119
                refine skip ?_
                show Code.wp _ _ _ _ _
                refine region ?_
                refine sv (yMove h13) ?_
                refine sv (yAdd rfl rfl ⟨by omega, by omega⟩) ?_
                refine sv (yAsg rfl) ?_
                refine nil ?_
                exact ⟨_, _, rfl, ⟨j + 1, h2, h3, h5, h7, h10, h11, (Eq.trans h12 (eqI (by rw [datK, getD_hit hx, if_neg c119]))), rfl, hS, (by omega), rfl⟩, by omega⟩
            ·
              simp only [Bool.and_eq_true, Bool.or_eq_true, Bool.and_eq_false_iff, Bool.or_eq_false_iff, decide_eq_true_eq, decide_eq_false_iff_not, Bool.not_eq_true, Bool.not_eq_false, Bool.not_not, Bool.not_eq_eq_eq_not, Bool.not_true, Bool.not_false, Bool.false_eq_true, Bool.true_eq_false, ne_eq, Decidable.not_not, not_false_eq_true, not_true_eq_false] at c106
              obtain rfl : j = g.datums.length := by omega
              obtain ⟨dd, hdd⟩ : ∃ dd, dd = datK g.datums (x.start + atS x.gaps k) g.datums.length := ⟨_, rfl⟩
              rw [← hdd] at h12
              refine exit ?_
              show Code.wp _ _ _ _ _
              refine seq ?_
              refine region ?_
              refine sv (yMove h7) ?_
              refine sv (yMove h10) ?_
              refine sv (yIxa rfl hav rfl Try.runUnderlying44 Try.sizeOf3 (by omega) (by omega)) ?_
              refine sv (yLd rfl Try.isAgg3 ((flat_cells encI_len (row_at (hS.row (.slice av (x.moves.length + 1) capv)) hav (by omega)) (lvsK_get (show (atS x.gaps k).toNat ≤ x.moves.length by omega))).one)) ?_
              refine sv (yAsg rfl) ?_
              refine nil ?_
              show Code.wp _ _ _ _ _
              refine seqJ (n := 191) (fun f w => f 2 = .pointer (some ⟨b2, 0, none⟩) ∧ f 3 = .pointer (some ⟨b3, 0, none⟩) ∧ f 5 = .pointer (some ⟨b5, 0, none⟩) ∧ f 7 = .slice av (x.moves.length + 1) capv ∧ f 10 = .int .i64 (atS x.gaps k) ∧ f 11 = .int .i64 (k : Int) ∧ f 14 = .int .i64 (shV g x dd (lvS g.rate x.level x.moves (atS x.gaps k).toNat)) ∧ StX [] w0 w [rowI rv 103 2 k ((mkRs g x k).flatMap readC), rowI (.slice av (x.moves.length + 1) capv) 3 1 (x.moves.length + 1) ((lvsK g.rate x.level x.moves x.moves.length).flatMap encI), blk b5 [.string ⟨#[]⟩, .int .i64 0, .int .i64 0, .slice none 0 0, .slice none 0 0] 34, blk b3 [.int .i64 x.start, .int .i64 x.level, .slice am x.moves.length capm, .slice ag x.gaps.length capg, .slice ah x.shifts.length caph, .slice ae x.errs.length cape] 53, blk b2 [.string g.name, .int .i64 g.err, .int .i64 g.rate, .slice a g.datums.length cap, rv] 34] ∧ True) ?_ ?_
              ·
                refine seq ?_
                refine region ?_
                refine sv (yMove h12) ?_
                refine sv (fa34_3 h2) ?_
                refine sv (yLdB rfl Try.isAgg31 (hS.at _) rfl) ?_
                refine sv (yLen rfl Try.underlying31) ?_
                refine sv (yLss rfl rfl) ?_
                refine nil ?_
                show Code.wp _ _ _ _ _
                refine cond rfl (fun c129 => ?_) (fun c129 => ?_)
                ·
                  simp only [Bool.and_eq_true, Bool.or_eq_true, Bool.and_eq_false_iff, Bool.or_eq_false_iff, decide_eq_true_eq, decide_eq_false_iff_not, Bool.not_eq_true, Bool.not_eq_false, Bool.not_not, Bool.not_eq_eq_eq_not, Bool.not_true, Bool.not_false, Bool.false_eq_true, Bool.true_eq_false, ne_eq, Decidable.not_not, not_false_eq_true, not_true_eq_false] at c129
                  obtain ⟨d, hx, hd⟩ := drop_of (l := g.datums) (k := dd) (by omega)
                  obtain ⟨b, o, cs, ha, hlen, hcs, hR⟩ := hel (dd) (by omega)
                  obtain rfl : d = g.datums[dd] := (List.getElem?_eq_some_iff.1 hx).2.symm
                  generalize g.datums[dd] = d at hx hd hR
                  obtain ⟨rfl, hd1, hd2, hd3⟩ := hR
                  have hgdd := getD_hit (d := (⟨0, ⟨0, 0⟩⟩ : Datum)) hx
                  have hddl : dd < g.datums.length := by omega
                  refine seq ?_
                  refine region ?_
                  refine sv (fa34_3 h2) ?_
                  refine sv (yLdB rfl Try.isAgg31 (hS.at _) rfl) ?_
                  refine sv (yMove h12) ?_
                  refine sv (yIxa rfl ha rfl Try.runUnderlying31 Try.sizeOf78 (by omega) (by omega)) ?_
                  refine sv (fa78_1 rfl) ?_
                  refine sv (yLdA rfl Try.isAgg38 Try.sizeOf38 ((hcs.mid (xs := spanC d.shift) 1 rfl).ext hS.ext) rfl) ?_
                  refine salloc hS Try.zeroValue38 rfl ?_; clear hS; intro b15 w hS
                  refine sst hS rfl rfl Try.sizeOf38 rfl rfl rfl rfl ?_; clear hS; intro w hS
                  refine nil ?_
                  show Code.wp _ _ _ _ _
                  refine seq ?_
                  refine region ?_
                  refine sv (yMove rfl) ?_
                  refine sv (fa38_0 rfl) ?_
                  refine sv (yLdB rfl Try.isAgg3 (hS.at _) rfl) ?_
                  refine sv (yAddW rfl rfl) ?_
                  refine sv (yAsg rfl) ?_
                  refine nil ?_
                  show Code.wp _ _ _ _ _
                  refine seq ?_
                  refine region ?_
                  refine sv (yMove h12) ?_
                  refine sv (fa53_4 h3) ?_
                  refine sv (yLdB rfl Try.isAgg51 (hS.at _) rfl) ?_
                  refine sv (yLen rfl Try.underlying51) ?_
                  refine sv (yLss rfl rfl) ?_
                  refine nil ?_
                  show Code.wp _ _ _ _ _
                  refine cond rfl (fun c144 => ?_) (fun c144 => ?_)
                  ·
                    simp only [Bool.and_eq_true, Bool.or_eq_true, Bool.and_eq_false_iff, Bool.or_eq_false_iff, decide_eq_true_eq, decide_eq_false_iff_not, Bool.not_eq_true, Bool.not_eq_false, Bool.not_not, Bool.not_eq_eq_eq_not, Bool.not_true, Bool.not_false, Bool.false_eq_true, Bool.true_eq_false, ne_eq, Decidable.not_not, not_false_eq_true, not_true_eq_false] at c144
                    obtain ⟨e, hxs, _⟩ := drop_of (l := x.shifts) (k := dd) (by omega)
                    obtain ⟨bs, os, css, has, hlens, hcss, hRs⟩ := helh (dd) (by omega)
                    obtain rfl : e = x.shifts[dd] := (List.getElem?_eq_some_iff.1 hxs).2.symm
                    generalize x.shifts[dd] = e at hxs hRs
                    obtain ⟨rfl, hlos, hhis⟩ := hRs
                    have hgds := getD_hit (d := (0 : Int)) hxs
                    refine region_draw mixed (by kernel_rfl) hS ?_
                    refine qv (fun w hS => (yMove rfl)) ?_
                    refine qv (fun w hS => (fa38_1 rfl)) ?_
                    refine qv (fun w hS => (yLdB rfl Try.isAgg3 (hS.at _) rfl)) ?_
                    refine qv (fun w hS => (fa38_0 rfl)) ?_
                    refine qv (fun w hS => (yLdB rfl Try.isAgg3 (hS.at _) rfl)) ?_
                    refine qv (fun w hS => (ySubW rfl rfl)) ?_
                    refine qv (fun w hS => (fa53_4 h3)) ?_
                    refine qv (fun w hS => (yLdB rfl Try.isAgg51 (hS.at _) rfl)) ?_
                    refine qv (fun w hS => (yMove h12)) ?_
                    refine qv (fun w hS => (yIxa rfl has rfl Try.runUnderlying51 Try.sizeOf5 (by omega) (by omega))) ?_
                    refine qv (fun w hS => (yLd rfl Try.isAgg5 ((hcss.ext hS.ext).one))) ?_
                    refine qv (fun w hS => (yToI rfl Try.underlying5 Try.underlying3 ⟨by omega, by omega⟩)) ?_
                    refine qv (fun w hS => (yMulW rfl rfl)) ?_
                    refine qv (fun w hS => (yQuoC rfl rfl (by decide) (w64_i64 _))) ?_
                    refine qv (fun w hS => (yAddW rfl rfl)) ?_
                    refine qv (fun w hS => (yAsg rfl)) ?_
                    clear hS; refine qnil (fun w hS => ?_)
                    exact ⟨_, rfl, h2, h3, h5, h7, h10, h11, (eqI (by unfold shV; rw [if_pos hddl, hgdd]; simp only []; rw [if_pos (by omega), hgds])), (hS.sub (.cons _ (List.Sublist.refl _))), trivial⟩
                  ·
                    simp only [Bool.and_eq_true, Bool.or_eq_true, Bool.and_eq_false_iff, Bool.or_eq_false_iff, decide_eq_true_eq, decide_eq_false_iff_not, Bool.not_eq_true, Bool.not_eq_false, Bool.not_not, Bool.not_eq_eq_eq_not, Bool.not_true, Bool.not_false, Bool.false_eq_true, Bool.true_eq_false, ne_eq, Decidable.not_not, not_false_eq_true, not_true_eq_false] at c144
                    refine skip ?_
                    exact ⟨_, rfl, h2, h3, h5, h7, h10, h11, (eqI (by unfold shV; rw [if_pos hddl, hgdd]; simp only []; rw [if_neg (by omega)])), (hS.sub (.cons _ (List.Sublist.refl _))), trivial⟩
                ·
                  simp only [Bool.and_eq_true, Bool.or_eq_true, Bool.and_eq_false_iff, Bool.or_eq_false_iff, decide_eq_true_eq, decide_eq_false_iff_not, Bool.not_eq_true, Bool.not_eq_false, Bool.not_not, Bool.not_eq_eq_eq_not, Bool.not_true, Bool.not_false, Bool.false_eq_true, Bool.true_eq_false, ne_eq, Decidable.not_not, not_false_eq_true, not_true_eq_false] at c129
                  have hddl : ¬ dd < g.datums.length := by omega
                  refine skip ?_
                  exact ⟨_, rfl, h2, h3, h5, h7, h10, h11, (eqI (by unfold shV; rw [if_neg hddl])), hS, trivial⟩
              ·
                clear hS; rintro f w ⟨h2, h3, h5, h7, h10, h11, h14, hS, -⟩
                refine seqJ (n := 191) (fun f w => f 2 = .pointer (some ⟨b2, 0, none⟩) ∧ f 3 = .pointer (some ⟨b3, 0, none⟩) ∧ f 5 = .pointer (some ⟨b5, 0, none⟩) ∧ f 7 = .slice av (x.moves.length + 1) capv ∧ f 10 = .int .i64 (atS x.gaps k) ∧ f 11 = .int .i64 (k : Int) ∧ f 14 = .int .i64 (mkR g x k).value ∧ StX [] w0 w [rowI rv 103 2 k ((mkRs g x k).flatMap readC), rowI (.slice av (x.moves.length + 1) capv) 3 1 (x.moves.length + 1) ((lvsK g.rate x.level x.moves x.moves.length).flatMap encI), blk b5 [.string ⟨#[]⟩, .int .i64 0, .int .i64 0, .slice none 0 0, .slice none 0 0] 34, blk b3 [.int .i64 x.start, .int .i64 x.level, .slice am x.moves.length capm, .slice ag x.gaps.length capg, .slice ah x.shifts.length caph, .slice ae x.errs.length cape] 53, blk b2 [.string g.name, .int .i64 g.err, .int .i64 g.rate, .slice a g.datums.length cap, rv] 34] ∧ True) ?_ ?_
                ·
                  refine seq ?_
                  refine region ?_
                  refine sv (yMove h11) ?_
                  refine sv (fa53_5 h3) ?_
                  refine sv (yLdB rfl Try.isAgg42 (hS.at _) rfl) ?_
                  refine sv (yLen rfl Try.underlying42) ?_
                  refine sv (yLss rfl rfl) ?_
                  refine nil ?_
                  show Code.wp _ _ _ _ _
                  refine cond rfl (fun c164 => ?_) (fun c164 => ?_)
                  ·
                    simp only [Bool.and_eq_true, Bool.or_eq_true, Bool.and_eq_false_iff, Bool.or_eq_false_iff, decide_eq_true_eq, decide_eq_false_iff_not, Bool.not_eq_true, Bool.not_eq_false, Bool.not_not, Bool.not_eq_eq_eq_not, Bool.not_true, Bool.not_false, Bool.false_eq_true, Bool.true_eq_false, ne_eq, Decidable.not_not, not_false_eq_true, not_true_eq_false] at c164
                    obtain ⟨e, hxe, _⟩ := drop_of (l := x.errs) (k := k) (by omega)
                    obtain ⟨be, oe, cse, hae, hlene, hcse, hRe⟩ := hele (k) (by omega)
                    obtain rfl : e = x.errs[k] := (List.getElem?_eq_some_iff.1 hxe).2.symm
                    generalize x.errs[k] = e at hxe hRe
                    obtain ⟨rfl, hloe, hhie⟩ := hRe
                    have hgde := getD_hit (d := (0 : Int)) hxe
                    refine region_draw mixed (by kernel_rfl) hS ?_
                    refine qv (fun w hS => (yMove h14)) ?_
                    refine qv (fun w hS => (fa34_1 h2)) ?_
                    refine qv (fun w hS => (yLdB rfl Try.isAgg3 (hS.at _) rfl)) ?_
                    refine qv (fun w hS => (fa53_5 h3)) ?_
                    refine qv (fun w hS => (yLdB rfl Try.isAgg42 (hS.at _) rfl)) ?_
                    refine qv (fun w hS => (yMove h11)) ?_
                    refine qv (fun w hS => (yIxa rfl hae rfl Try.runUnderlying42 Try.sizeOf47 (by omega) (by omega))) ?_
                    refine qv (fun w hS => (yLd rfl Try.isAgg47 ((hcse.ext hS.ext).one))) ?_
                    refine qv (fun w hS => (yToI rfl Try.underlying47 Try.underlying3 ⟨by omega, by omega⟩)) ?_
                    refine qv (fun w hS => (yMax rfl rfl)) ?_
                    refine qv (fun w hS => (yMulW rfl rfl)) ?_
                    refine qv (fun w hS => (yQuoC rfl rfl (by decide) (w64_i64 _))) ?_
                    refine qv (fun w hS => (yAddW rfl rfl)) ?_
                    refine qv (fun w hS => (yAsg rfl)) ?_
                    clear hS; refine qnil (fun w hS => ?_)
                    exact ⟨_, rfl, h2, h3, h5, h7, h10, h11, (Eq.trans rfl (eqI (by unfold mkR; rw [← hdd]; unfold erV; simp only []; rw [if_pos (by omega), hgde]))), hS, trivial⟩
                  ·
                    simp only [Bool.and_eq_true, Bool.or_eq_true, Bool.and_eq_false_iff, Bool.or_eq_false_iff, decide_eq_true_eq, decide_eq_false_iff_not, Bool.not_eq_true, Bool.not_eq_false, Bool.not_not, Bool.not_eq_eq_eq_not, Bool.not_true, Bool.not_false, Bool.false_eq_true, Bool.true_eq_false, ne_eq, Decidable.not_not, not_false_eq_true, not_true_eq_false] at c164
                    refine skip ?_
                    exact ⟨_, rfl, h2, h3, h5, h7, h10, h11, (Eq.trans h14 (eqI (by unfold mkR; rw [← hdd]; unfold erV; simp only []; rw [if_neg (by omega)]))), hS, trivial⟩
                ·
                  clear hS; rintro f w ⟨h2, h3, h5, h7, h10, h11, h14, hS, -⟩
                  refine region ?_
                  refine sv (fa34_4 h2) ?_
                  refine sv (yLdB rfl Try.isAgg32 (hS.at _) rfl) ?_
                  refine sv (fa53_0 h3) ?_
                  refine sv (yLdB rfl Try.isAgg3 (hS.at _) rfl) ?_
                  refine sv (yMove h10) ?_
                  refine sv (yAdd rfl rfl ⟨by omega, by omega⟩) ?_
                  refine sv (yMove h14) ?_
                  refine sv (yBuild Try.zeroValue103 rfl pl103 (.cons rfl rfl (.cons rfl rfl .nil)) rfl) ?_
                  refine sbslice hS Try.underlying32 Try.sizeOf103 rfl Try.zeroValue103 rfl (.cons rfl rfl .nil) rfl ?_; clear hS; intro b186 w hS
                  refine sapp (bytes := 16) (size := 2) (v := rv) (m := 1) hS rfl rfl Try.underlying32 ti103 rfl rfl rfl rfl (by decide) (blk_cells (hS.at _)) rfl rfl (by omega) (by omega) ?_; clear hS; intro v187 w hS
                  refine sv (fa34_4 h2) ?_
                  obtain ⟨gr, capr, rfl, _, _, _⟩ := row_some (hS.row v187) (Nat.succ_pos _)
                  refine sst hS rfl rfl Try.sizeOf32 rfl rfl rfl rfl ?_; clear hS; intro w hS
                  refine nil ?_
                  show Code.wp _ _ _ _ _
                  refine region ?_
                  refine sv (yMove h11) ?_
                  refine sv (yAdd rfl rfl ⟨by omega, by omega⟩) ?_
                  refine sv (yAsg rfl) ?_
                  refine nil ?_
                  exact ⟨_, _, rfl, ⟨k + 1, _, h2, h3, h5, h7, h10, rfl, (by rw [mkRs_succ, List.flatMap_append]; exact hS.sub (.cons _ (List.Sublist.refl _))), (by omega), (by omega), (snoc hat c101), (⟨hs0, by show atS x.gaps k ≤ 150; omega⟩), rfl⟩, by omega⟩
      ·
        simp only [Bool.and_eq_true, Bool.or_eq_true, Bool.and_eq_false_iff, Bool.or_eq_false_iff, decide_eq_true_eq, decide_eq_false_iff_not, Bool.not_eq_true, Bool.not_eq_false, Bool.not_not, Bool.not_eq_eq_eq_not, Bool.not_true, Bool.not_false, Bool.false_eq_true, Bool.true_eq_false, ne_eq, Decidable.not_not, not_false_eq_true, not_true_eq_false] at c82
        refine exit ?_
        show Code.wp _ _ _ _ _
        refine seq ?_
        refine region_tail mixed 3 (by kernel_rfl) hS ?_
        obtain ⟨ar, capr, rfl⟩ := row_shape (hS.row rv)
        refine qv (fun w hS => (yMove h7)) ?_
        refine qv (fun w hS => (yLdBA h2 Try.isAgg34 Try.sizeOf34 (hS.at _) rfl rfl)) ?_
        refine qv (fun w hS => (yAsg rfl)) ?_
        clear hS; refine qtl (fun w hS => ?_)
        refine sst hS h5 rfl Try.sizeOf34 rfl rfl rfl rfl ?_; clear hS; intro w hS
        refine sv (yAsg rfl) ?_
        refine nil ?_
        show Code.wp _ _ _ _ _
        refine wp_ret ?_
        refine retQ (resV3 rfl (rt rfl) (rc h5 Try.isAgg34 Try.sizeOf34 (hS.at _) rfl rfl) (rt rfl)) ?_
        refine .inr ⟨_, _, k, rfl, htr, hk6, hat, ?_⟩
        exact hS.sub (.cons_cons _ (.cons_cons _ (List.nil_sublist _)))
end Go.Proofs.Ytpgmehignepidaa
