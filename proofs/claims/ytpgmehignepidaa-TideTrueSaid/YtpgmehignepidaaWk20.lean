/- Walks, part Wk20. -/
import Derived.Test.YtpgmehignepidaaWk19
set_option linter.all false
namespace Go.Proofs.Ytpgmehignepidaa
open Go Bx
/-- What made returns, in one form. -/
theorem c_made2 {g : Gauge} {cs xs : List Value} {x : Truth} {wb w0 : World} (hg : RGauge wb cs g) (hx : RTruth wb xs x) (he : Ext wb w0) : CE Try.prog 31 #[.agg cs.toArray, .agg xs.toArray] w0 (fun v w' => ∃ lvv l rv rcs K ad nd cd ar nr cr y B, v = .tuple #[lvv, .agg ([.string g.name, .int .i64 g.err, .int .i64 g.rate, .slice ad nd cd, .slice ar nr cr] : List Value).toArray, .bool B] ∧ (B = true → Made g x y K ∧ l = lvsK g.rate x.level x.moves x.moves.length) ∧
    (∀ w'', Ext wb w'' → w''.ownsRow 0 103 2 rv K rcs → RGauge w'' [.string g.name, .int .i64 g.err, .int .i64 g.rate, .slice ad nd cd, .slice ar nr cr] y) ∧ St w0 w' [rowI rv 103 2 K rcs, rowI lvv 3 1 l.length (l.flatMap encI)]) := by
  refine (c_made (hg.ext he) (hx.ext he)).mono ?_
  obtain ⟨dv, rv, rfl, hnm, hge, hgr, hsd, hsr⟩ := id hg
  obtain ⟨a, cap, rfl, _⟩ := id hsd
  obtain ⟨a2, cap2, rfl, _⟩ := id hsr
  rintro v w' (⟨rfl, hE⟩ | ⟨lvv, rv, K, rfl, htr, hK, hat, hM⟩)
  · refine ⟨.slice none 0 0, [], .slice none 0 0, [], 0, a, _, cap, a2, _, cap2, g, false, rfl, fun h => (by cases h), fun w'' e _ => hg.ext e, ?_⟩
    exact (((⟨hE.extX, by simp, by simp [fps], by simp [fps]⟩ : StX [] w0 w' []).nilrow 3 1).nilrow 103 2)
  · obtain ⟨ar, cr, rfl⟩ := row_shape (hM.row rv)
    refine ⟨lvv, lvsK g.rate x.level x.moves x.moves.length, .slice ar K cr, (mkRs g x K).flatMap readC, K, a, _, cap, ar, K, cr, { g with readings := mkRs g x K }, true, rfl, fun _ => ⟨⟨htr, rfl, hat⟩, rfl⟩, fun w'' e ho => ⟨_, _, rfl, hnm, hge, hgr, hsd.ext RDatum.stays e, ?_⟩, ?_⟩
    · have hl := mkRs_len g x K
      have := row_sl readC_len (l := mkRs g x K) (ok := fun r => I64 r.tick ∧ I64 r.value) (by rw [hl]; exact ho) (fun r hr => by obtain ⟨i, hi, rfl⟩ := List.mem_map.1 hr; exact mkR_i64 htr (hat i (List.mem_range.1 hi)))
      exact this
    · rw [lvsK_len]; exact hM
set_option maxHeartbeats 4000000 in
/-- barrage/barragelaw01.TideTrue -/
theorem w_TideTrue {g : Gauge} {cs xs ps : List Value} {x : Truth} {at_ : Int × Int × Int} {w0 : World} (hg : RGauge w0 cs g) (hx : RTruth w0 xs x) (ha : RU3 w0 ps at_) : CV Try.prog 6 #[.agg cs.toArray, .agg xs.toArray, .agg ps.toArray] w0 (.bool true) := by
  obtain ⟨dv, rv, rfl, hnm, hge, hgr, hsd, hsr⟩ := id hg
  obtain ⟨a, cap, rfl, hcap, hmx, hel⟩ := id hsd
  obtain ⟨a2, cap2, rfl, hcap2, hmx2, hel2⟩ := id hsr
  obtain ⟨mv, gv, sv, ev, rfl, hxs, hxl, hmv, hgv, hsv, hev⟩ := id hx
  obtain ⟨am, capm, rfl, hcapm, hmxm, helm⟩ := id hmv
  obtain ⟨ag, capg, rfl, hcapg, hmxg, helg⟩ := id hgv
  obtain ⟨ah, caph, rfl, hcaph, hmxh, helh⟩ := id hsv
  obtain ⟨ae, cape, rfl, hcape, hmxe, hele⟩ := id hev
  obtain ⟨p0, p1, p2⟩ := at_
  have hps : ps = [.int .u8 p0, .int .u8 p1, .int .u8 p2] := ha.1
  subst hps
  obtain ⟨_, hp0, hp1, hp2⟩ := ha
  simp only [] at hp0 hp1 hp2
  have hsh := shares_of hx
  refine enter Try.func6 rfl Try.ntmps6 rfl ?_
  have hS := St.start w0
  refine seq ?_
  refine region ?_
  refine sbox hS rfl rfl ?_; clear hS; intro b3 w hS
  refine sbox hS rfl rfl ?_; clear hS; intro b4 w hS
  refine sbox hS rfl rfl ?_; clear hS; intro b5 w hS
  refine sv (yAsg rfl) ?_
  refine nil ?_
  show Code.wp _ _ _ _ _
  refine seq ?_
  refine region ?_
  refine sv (yLdBA rfl Try.isAgg34 Try.sizeOf34 (hS.at _) rfl rfl) ?_
  refine sv (yLdBA rfl Try.isAgg53 Try.sizeOf53 (hS.at _) rfl rfl) ?_
  refine scall Try.call31 (.cons rfl (.cons rfl .nil)) (c_made2 hg hx hS.ext) ?_
  rintro _ w ⟨lvv, l, rv, rcs, K, ad, nd, cd, ar, nr, cr, y, B, rfl, hB, hRG, hM⟩; replace hS := hS.call2 hM; clear hM; obtain ⟨al, capl, rfl⟩ := row_shape (hS.row lvv)
  refine sv (yMove rfl) ?_
  refine sv (yExt rfl rfl) ?_
  refine sv (yExt rfl rfl) ?_
  refine sv (yExt rfl rfl) ?_
  refine salloc hS Try.zeroValue34 rfl ?_; clear hS; intro b8 w hS
  refine sv (yAsg rfl) ?_
  refine sst hS rfl rfl Try.sizeOf34 rfl rfl rfl rfl ?_; clear hS; intro w hS
  refine sv (yAsg rfl) ?_
  refine nil ?_
  show Code.wp _ _ _ _ _
  refine seq ?_
  refine region ?_
  refine sv (yLdBA rfl Try.isAgg34 Try.sizeOf34 (hS.at _) rfl rfl) ?_
  refine scall Try.call24 (.cons rfl .nil) (c_CheckGauge (hRG _ hS.ext (hS.row rv))) ?_
  rintro _ w ⟨rfl, hE⟩; replace hS := hS.step hE; clear hE
  refine sv (yMove rfl) ?_
  refine sv (yExt rfl rfl) ?_
  refine sv (yExt rfl rfl) ?_
  refine sv (yExt rfl rfl) ?_
  refine sv (yAsg rfl) ?_
  refine sv (yAsg rfl) ?_
  refine sv (yAsg rfl) ?_
  refine nil ?_
  show Code.wp _ _ _ _ _
  refine seq ?_
  refine seq ?_
  refine region ?_
  refine sv (yMove rfl) ?_
  refine sv (yNot rfl) ?_
  refine sv (yMove rfl) ?_
  refine sg rfl rfl rfl (fun g => (yMove rfl)) (fun v35 g35 => ?_)
  refine sg rfl rfl rfl (fun g => (yNeq (g35.1 g) rfl)) (fun v36 g36 => ?_)
  refine sv (yOr rfl rfl (fun hB => (g36.1 hB))) ?_
  refine sv (yMove rfl) ?_
  refine sg rfl rfl rfl (fun g => (yMove rfl)) (fun v39 g39 => ?_)
  refine sg rfl rfl rfl (fun g => (yLen (g39.1 g) Try.underlying44)) (fun v40 g40 => ?_)
  refine sg rfl rfl rfl (fun g => (yEql (g40.1 g) rfl)) (fun v41 g41 => ?_)
  refine sv (yOr rfl rfl (fun hB => (g41.1 hB))) ?_
  refine nil ?_
  show Code.wp _ _ _ _ _
  refine cond rfl (fun c42 => ?_) (fun c42 => ?_)
  ·
    simp only [Bool.and_eq_true, Bool.or_eq_true, Bool.and_eq_false_iff, Bool.or_eq_false_iff, decide_eq_true_eq, decide_eq_false_iff_not, Bool.not_eq_true, Bool.not_eq_false, Bool.not_not, Bool.not_eq_eq_eq_not, Bool.not_true, Bool.not_false, Bool.false_eq_true, Bool.true_eq_false, ne_eq, Decidable.not_not, not_false_eq_true, not_true_eq_false] at c42
    refine seq ?_
    refine region ?_
    refine scall Try.call23 .nil c_Awake ?_
    rintro _ w ⟨rfl, hE⟩; replace hS := hS.step hE; clear hE
    refine sv (yAsg rfl) ?_
    refine nil ?_
    show Code.wp _ _ _ _ _
    refine wp_ret (thenR ?_)
    exact retV (res1 rfl rfl) hS.ext
  ·
    simp only [Bool.and_eq_true, Bool.or_eq_true, Bool.and_eq_false_iff, Bool.or_eq_false_iff, decide_eq_true_eq, decide_eq_false_iff_not, Bool.not_eq_true, Bool.not_eq_false, Bool.not_not, Bool.not_eq_eq_eq_not, Bool.not_true, Bool.not_false, Bool.false_eq_true, Bool.true_eq_false, ne_eq, Decidable.not_not, not_false_eq_true, not_true_eq_false] at c42
    obtain ⟨⟨hb, hy⟩, hl0⟩ := c42
    obtain ⟨hMd, hlE⟩ := hB hb
    have htr := hMd.tr
    have hst := htr.start
    have hml := htr.len
    have hll : l.length = x.moves.length + 1 := by rw [hlE, lvsK_len]
    have hye : y.rate = g.rate := by rw [hMd.y_eq]
    refine skip ?_
    show Code.wp _ _ _ _ _
    refine seq ?_
    refine region ?_
    refine sv (yIxA rfl rfl Try.runUnderlying54 Try.sizeOf5 (by omega) (by omega)) ?_
    refine sv (yLdB rfl Try.isAgg5 (hS.at _) rfl) ?_
    refine sv (yToI rfl Try.underlying5 Try.underlying3 ⟨by omega, by omega⟩) ?_
    refine sv (yMove rfl) ?_
    refine sv (yLen rfl Try.underlying44) ?_
    obtain ⟨ni, hni⟩ := Int.eq_ofNat_of_zero_le (Int.emod_nonneg p0 (show (l.length : Int) ≠ 0 by omega))
    have hnl := Int.emod_lt_of_pos p0 (show (0 : Int) < (l.length : Int) by omega)
    rw [hni] at hnl
    have hli : l[ni]? = some (lvS g.rate x.level x.moves ni) := by rw [hlE]; exact lvsK_get (by omega)
    obtain ⟨gl, hal, _⟩ := row_get (hS.row (.slice al l.length capl)) (by omega)
    refine sv (Y.to (yRemP rfl rfl (by omega) (by omega)) (show Value.int .i64 _ = .int .i64 (ni : Int) by rw [hni])) ?_
    refine sv (yAsg rfl) ?_
    refine nil ?_
    show Code.wp _ _ _ _ _
    refine seq ?_
    refine region ?_
    refine sv (fa53_0 rfl) ?_
    refine sv (yLdB rfl Try.isAgg3 (hS.at _) rfl) ?_
    refine sv (yIxA rfl rfl Try.runUnderlying54 Try.sizeOf5 (by omega) (by omega)) ?_
    refine sv (yLdB rfl Try.isAgg5 (hS.at _) rfl) ?_
    refine sv (yToI rfl Try.underlying5 Try.underlying3 ⟨by omega, by omega⟩) ?_
    obtain ⟨q1, hq1⟩ : ∃ q, q = p1 % 150 := ⟨_, rfl⟩
    have hq1b : Bd q1 0 149 := by rw [hq1]; exact ⟨Int.emod_nonneg _ (by decide), by have := Int.emod_lt_of_pos p1 (show (0 : Int) < 150 by decide); omega⟩
    refine sv (Y.to (yRemP rfl rfl (by omega) (by decide)) (show Value.int .i64 _ = .int .i64 q1 by rw [hq1])) ?_
    refine sv (yAdd rfl rfl ⟨by omega, by omega⟩) ?_
    refine sv (yAsg rfl) ?_
    refine nil ?_
    show Code.wp _ _ _ _ _
    refine seq ?_
    refine region ?_
    refine sv (yMove rfl) ?_
    refine sv (yIxA rfl rfl Try.runUnderlying54 Try.sizeOf5 (by omega) (by omega)) ?_
    refine sv (yLdB rfl Try.isAgg5 (hS.at _) rfl) ?_
    refine sv (yToI rfl Try.underlying5 Try.underlying3 ⟨by omega, by omega⟩) ?_
    refine sv (yAdd rfl rfl ⟨by omega, by omega⟩) ?_
    refine sv (yMin rfl rfl) ?_
    refine sv (yAsg rfl) ?_
    refine nil ?_
    show Code.wp _ _ _ _ _
    refine seq ?_
    refine region ?_
    refine sv (yLdBA rfl Try.isAgg34 Try.sizeOf34 (hS.at _) rfl rfl) ?_
    refine sv (fa53_0 rfl) ?_
    refine sv (yLdB rfl Try.isAgg3 (hS.at _) rfl) ?_
    refine sv (yMove rfl) ?_
    refine sv (yAdd rfl rfl ⟨by omega, by omega⟩) ?_
    refine sv (yMove rfl) ?_
    refine scall Try.call26 (.cons rfl (.cons rfl (.cons rfl .nil))) (c_Says (hRG _ hS.ext (hS.row rv)) ⟨by omega, by omega⟩ ⟨by omega, by omega⟩) ?_
    rintro _ w ⟨rfl, hE⟩; replace hS := hS.step hE; clear hE
    refine sv (yMove rfl) ?_
    refine sv (yExt rfl rfl) ?_
    refine sv (yExt rfl rfl) ?_
    refine salloc hS Try.zeroValue38 rfl ?_; clear hS; intro b16 w hS
    refine sst hS rfl rfl Try.sizeOf38 rfl rfl rfl rfl ?_; clear hS; intro w hS
    refine sv (yAsg rfl) ?_
    refine nil ?_
    show Code.wp _ _ _ _ _
    refine seq ?_
    refine region ?_
    refine sv (yLdBA rfl Try.isAgg34 Try.sizeOf34 (hS.at _) rfl rfl) ?_
    refine sv (fa53_0 rfl) ?_
    refine sv (yLdB rfl Try.isAgg3 (hS.at _) rfl) ?_
    refine sv (yMove rfl) ?_
    refine sv (yAdd rfl rfl ⟨by omega, by omega⟩) ?_
    refine sv (yMove rfl) ?_
    refine scall Try.call26 (.cons rfl (.cons rfl (.cons rfl .nil))) (c_Says (hRG _ hS.ext (hS.row rv)) ⟨by omega, by omega⟩ ⟨by omega, by omega⟩) ?_
    rintro _ w ⟨rfl, hE⟩; replace hS := hS.step hE; clear hE
    refine sv (yMove rfl) ?_
    refine sv (yExt rfl rfl) ?_
    refine sv (yExt rfl rfl) ?_
    refine salloc hS Try.zeroValue38 rfl ?_; clear hS; intro b17 w hS
    refine sst hS rfl rfl Try.sizeOf38 rfl rfl rfl rfl ?_; clear hS; intro w hS
    refine sv (yAsg rfl) ?_
    refine nil ?_
    show Code.wp _ _ _ _ _
    refine seq ?_
    refine seq ?_
    refine region ?_
    have hA := hMd.says hsh hy (i := ni) (by omega) (now := x.start + q1) ⟨by omega, by omega⟩
    have hBB := hMd.says hsh hy (i := ni) (by omega) (now := min 200000 (x.start + q1 + p2)) ⟨by omega, by omega⟩
    rw [hye] at hA hBB
    refine sv (yMove rfl) ?_
    refine sv (yEql rfl rfl) ?_
    refine nil ?_
    show Code.wp _ _ _ _ _
    refine cond rfl (fun c84 => ?_) (fun c84 => ?_)
    ·
      simp only [Bool.and_eq_true, Bool.or_eq_true, Bool.and_eq_false_iff, Bool.or_eq_false_iff, decide_eq_true_eq, decide_eq_false_iff_not, Bool.not_eq_true, Bool.not_eq_false, Bool.not_not, Bool.not_eq_eq_eq_not, Bool.not_true, Bool.not_false, Bool.false_eq_true, Bool.true_eq_false, ne_eq, Decidable.not_not, not_false_eq_true, not_true_eq_false] at c84
      refine seq ?_
      refine region_draw mixed (by kernel_rfl) hS ?_
      refine qv (fun w hS => (yMove rfl)) ?_
      refine qv (fun w hS => (yEql rfl rfl)) ?_
      refine qv (fun w hS => (yMove rfl)) ?_
      refine qg rfl rfl rfl (fun g w hS => (yMove rfl)) (fun v88 g88 => ?_)
      refine qg rfl rfl rfl (fun g w hS => (yEql (g88.1 g) rfl)) (fun v89 g89 => ?_)
      refine qg rfl rfl rfl (fun g w hS => (yMove (g89.1 g))) (fun v90 g90 => ?_)
      refine qgg rfl rfl g90 (fun g w hS => (yLdBA rfl Try.isAgg38 Try.sizeOf38 (hS.at _) rfl rfl)) (fun v91 g91 => ?_)
      refine qgg rfl rfl g90 (fun g w hS => (yMove rfl)) (fun v92 g92 => ?_)
      refine qgg rfl rfl g90 (fun g w hS => (yMove rfl)) (fun v93 g93 => ?_)
      refine qgg rfl rfl g90 (fun g w hS => (yIxa (g92.1 g) hal (g93.1 g) Try.runUnderlying44 Try.sizeOf3 (by omega) (by omega))) (fun v94 g94 => ?_)
      refine qgg rfl rfl g90 (fun g w hS => (yLd (g94.1 g) Try.isAgg3 ((flat_cells encI_len (row_at (hS.row (.slice al l.length capl)) hal (by omega)) hli).one))) (fun v95 g95 => ?_)
      refine qggc rfl rfl g90 Try.call29 (fun g => (.cons (g91.1 g) (.cons (g95.1 g) .nil))) (fun g w hS => c_has) (fun v96 g96 => ?_)
      refine qg rfl rfl rfl (fun g w hS => (yAnd (g90.1 g) (fun hB => (g96.1 ⟨g, hB⟩)) rfl)) (fun v97 g97 => ?_)
      refine qv (fun w hS => (yOr rfl rfl (fun hB => (g97.1 hB)))) ?_
      refine qv (fun w hS => (yMove rfl)) ?_
      refine qgc rfl rfl rfl Try.call23 (fun g => .nil) (fun g w hS => c_Awake) (fun v100 g100 => ?_)
      refine qv (fun w hS => (yAnd rfl (fun hB => (g100.1 hB)) rfl)) ?_
      refine qv (fun w hS => (yAsg rfl)) ?_
      clear hS; refine qnil (fun w hS => ?_)
      show Code.wp _ _ _ _ _
      have hfin : (saysF y (x.start + ni) (min 200000 (x.start + q1 + p2))).2 = 4 ∨ ((saysF y (x.start + ni) (min 200000 (x.start + q1 + p2))).2 = 0 ∧ hasB (saysF y (x.start + ni) (min 200000 (x.start + q1 + p2))).1 (lvS g.rate x.level x.moves ni) = true) := by
        rcases hBB with h | h
        · exact .inl h.2
        · exact .inr h.2
      refine wp_ret (thenR ?_)
      exact retV (res1 rfl (eqB (by rcases hfin with h | ⟨h, k⟩ <;> simp [h] <;> simp [k]))) hS.ext
    ·
      simp only [Bool.and_eq_true, Bool.or_eq_true, Bool.and_eq_false_iff, Bool.or_eq_false_iff, decide_eq_true_eq, decide_eq_false_iff_not, Bool.not_eq_true, Bool.not_eq_false, Bool.not_not, Bool.not_eq_eq_eq_not, Bool.not_true, Bool.not_false, Bool.false_eq_true, Bool.true_eq_false, ne_eq, Decidable.not_not, not_false_eq_true, not_true_eq_false] at c84
      refine skip ?_
      show Code.wp _ _ _ _ _
      refine seq ?_
      refine region_draw mixed (by kernel_rfl) hS ?_
      refine qv (fun w hS => (yMove rfl)) ?_
      refine qv (fun w hS => (yEql rfl rfl)) ?_
      refine qv (fun w hS => (yMove rfl)) ?_
      refine qg rfl rfl rfl (fun g w hS => (yMove rfl)) (fun v105 g105 => ?_)
      refine qg rfl rfl rfl (fun g w hS => (yEql (g105.1 g) rfl)) (fun v106 g106 => ?_)
      refine qv (fun w hS => (yAnd rfl (fun hB => (g106.1 hB)) rfl)) ?_
      refine qv (fun w hS => (yMove rfl)) ?_
      refine qg rfl rfl rfl (fun g w hS => (yLdBA rfl Try.isAgg38 Try.sizeOf38 (hS.at _) rfl rfl)) (fun v109 g109 => ?_)
      refine qg rfl rfl rfl (fun g w hS => (yMove rfl)) (fun v110 g110 => ?_)
      refine qg rfl rfl rfl (fun g w hS => (yMove rfl)) (fun v111 g111 => ?_)
      refine qg rfl rfl rfl (fun g w hS => (yIxa (g110.1 g) hal (g111.1 g) Try.runUnderlying44 Try.sizeOf3 (by omega) (by omega))) (fun v112 g112 => ?_)
      refine qg rfl rfl rfl (fun g w hS => (yLd (g112.1 g) Try.isAgg3 ((flat_cells encI_len (row_at (hS.row (.slice al l.length capl)) hal (by omega)) hli).one))) (fun v113 g113 => ?_)
      refine qgc rfl rfl rfl Try.call29 (fun g => (.cons (g109.1 g) (.cons (g113.1 g) .nil))) (fun g w hS => c_has) (fun v114 g114 => ?_)
      refine qv (fun w hS => (yAnd rfl (fun hB => (g114.1 hB)) rfl)) ?_
      refine qv (fun w hS => (yMove rfl)) ?_
      refine qg rfl rfl rfl (fun g w hS => (yLdBA rfl Try.isAgg38 Try.sizeOf38 (hS.at _) rfl rfl)) (fun v117 g117 => ?_)
      refine qg rfl rfl rfl (fun g w hS => (yMove rfl)) (fun v118 g118 => ?_)
      refine qg rfl rfl rfl (fun g w hS => (yMove rfl)) (fun v119 g119 => ?_)
      refine qg rfl rfl rfl (fun g w hS => (yIxa (g118.1 g) hal (g119.1 g) Try.runUnderlying44 Try.sizeOf3 (by omega) (by omega))) (fun v120 g120 => ?_)
      refine qg rfl rfl rfl (fun g w hS => (yLd (g120.1 g) Try.isAgg3 ((flat_cells encI_len (row_at (hS.row (.slice al l.length capl)) hal (by omega)) hli).one))) (fun v121 g121 => ?_)
      refine qgc rfl rfl rfl Try.call29 (fun g => (.cons (g117.1 g) (.cons (g121.1 g) .nil))) (fun g w hS => c_has) (fun v122 g122 => ?_)
      refine qv (fun w hS => (yAnd rfl (fun hB => (g122.1 hB)) rfl)) ?_
      refine qv (fun w hS => (yMove rfl)) ?_
      refine qg rfl rfl rfl (fun g w hS => (yLdBA rfl Try.isAgg38 Try.sizeOf38 (hS.at _) rfl rfl)) (fun v125 g125 => ?_)
      refine qg rfl rfl rfl (fun g w hS => (yLdBA rfl Try.isAgg38 Try.sizeOf38 (hS.at _) rfl rfl)) (fun v126 g126 => ?_)
      refine qgc rfl rfl rfl Try.call30 (fun g => (.cons (g125.1 g) (.cons (g126.1 g) .nil))) (fun g w hS => c_within) (fun v127 g127 => ?_)
      refine qv (fun w hS => (yAnd rfl (fun hB => (g127.1 hB)) rfl)) ?_
      refine qv (fun w hS => (yMove rfl)) ?_
      refine qgc rfl rfl rfl Try.call23 (fun g => .nil) (fun g w hS => c_Awake) (fun v130 g130 => ?_)
      refine qv (fun w hS => (yAnd rfl (fun hB => (g130.1 hB)) rfl)) ?_
      refine qv (fun w hS => (yAsg rfl)) ?_
      clear hS; refine qnil (fun w hS => ?_)
      show Code.wp _ _ _ _ _
      have hA2 := (hA.resolve_left (fun h => c84 h.2))
      have hB2 := (hBB.resolve_left (fun h => hA2.1 (known_nil (by omega) h.1)))
      have hw := says_more (g := y) (t := x.start + (ni : Int)) (a := x.start + q1) (b := min 200000 (x.start + q1 + p2)) (by omega) hA2.2.1 hB2.2.1
      refine wp_ret ?_
      exact retV (res1 rfl (eqB (by rw [withinB_iff.2 hw.1, hA2.2.2, hB2.2.2]; simp [hA2.2.1, hB2.2.1]))) hS.ext
end Go.Proofs.Ytpgmehignepidaa
