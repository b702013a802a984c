/- Merged texts, part 3. -/
import Derived.Test.YtpgmehignepidaaQ2
set_option linter.all false
/- part Wk5 -/
namespace Go.Proofs.Ytpgmehignepidaa
open Go Bx
/-- barrage/tide.datum -/
theorem c_datum {g : Gauge} {r : Reading} {cs : List Value} {w0 : World} (hg : RGauge w0 cs g) (hok : GaugeOk g) (hr : 0 ≤ r.tick) : CV Try.prog 89 #[.agg cs.toArray, .agg (readC r).toArray] w0 (.int .i64 (datI g.datums r.tick : Nat)) := by
  obtain ⟨dv, rv, rfl, hnm, hge, hgr, hsd, hsr⟩ := id hg
  obtain ⟨a, cap, rfl, hcap, hmx, hel⟩ := id hsd
  obtain ⟨a2, cap2, rfl, hcap2, hmx2, hel2⟩ := id hsr
  have hc := cntD_pos hok.len.1 hok.first hr
  have hl8 := hok.len.2
  refine enter Try.func89 rfl Try.ntmps89 rfl ?_
  have hS := St.start w0
  refine seq ?_
  refine region ?_
  refine sbox hS rfl rfl ?_; clear hS; intro b2 w hS
  refine sbox hS rfl rfl ?_; clear hS; intro b3 w hS
  refine sv (yAsg rfl) ?_
  refine nil ?_
  show Code.wp _ _ _ _ _
  refine seq ?_
  refine region ?_
  refine sv (fa34_3 rfl) ?_
  refine sv (yLdB rfl Try.isAgg31 (hS.at _) rfl) ?_
  refine sv (fa103_0 rfl) ?_
  refine sv (yLdB rfl Try.isAgg3 (hS.at _) rfl) ?_
  refine scall Try.call111 (.cons rfl (.cons rfl (.cons rfl .nil))) (c_SearchDatum (hsd.ext RDatum.stays hS.ext) hok.asc (by omega)) ?_
  rintro _ w ⟨i, is, rfl, hse, hE⟩; replace hS := hS.step hE; clear hE; have hse1 := hse.1
  refine sv (yMove rfl) ?_
  refine sv (yExt rfl rfl) ?_
  refine sv (yExt rfl rfl) ?_
  refine sv (yAsg rfl) ?_
  refine sv (yAsg rfl) ?_
  refine nil ?_
  show Code.wp _ _ _ _ _
  refine seq ?_
  refine seq ?_
  refine region ?_
  refine sv (yMove rfl) ?_
  refine nil ?_
  show Code.wp _ _ _ _ _
  refine cond rfl (fun c15 => ?_) (fun c15 => ?_)
  ·
    refine seq ?_
    refine region ?_
    refine sv (yMove rfl) ?_
    refine sv (yAsg rfl) ?_
    refine nil ?_
    show Code.wp _ _ _ _ _
    have hfin := searchD_datI hse hok.asc hc
    rw [if_pos c15] at hfin
    refine wp_ret (thenR ?_)
    exact retV (res1 rfl (eqI hfin.symm)) hS.ext
  ·
    refine skip ?_
    show Code.wp _ _ _ _ _
    refine seq ?_
    refine region ?_
    refine sv (yMove rfl) ?_
    refine sv (ySub rfl rfl ⟨by omega, by omega⟩) ?_
    refine sv (yAsg rfl) ?_
    refine nil ?_
    show Code.wp _ _ _ _ _
    have hfin := searchD_datI hse hok.asc hc
    rw [if_neg (by rw [c15]; decide)] at hfin
    refine wp_ret ?_
    exact retV (res1 rfl (eqI hfin.symm)) hS.ext
/-- barrage/tide.around -/
theorem c_around {v e : Int} {s : Span} {w0 : World} (hv : Bd v (-100000) 100000) (he : Bd e 0 2000000000) (hs : Bd s.lo (-100000) 100000 ∧ Bd s.hi (-100000) 100000) : CV Try.prog 91 #[.int .i64 v, .int .i64 e, .agg (spanC s).toArray] w0 (.agg (spanC (around v e s)).toArray) := by
  refine enter Try.func91 rfl Try.ntmps91 rfl ?_
  have hS := St.start w0
  refine seq ?_
  refine region ?_
  refine sbox hS rfl rfl ?_; clear hS; intro b5 w hS
  refine salloc hS Try.zeroValue38 rfl ?_; clear hS; intro b6 w hS
  refine nil ?_
  show Code.wp _ _ _ _ _
  refine seq ?_
  refine region ?_
  refine sv (yMove rfl) ?_
  refine sv (yMove rfl) ?_
  refine sv (ySub rfl rfl ⟨by omega, by omega⟩) ?_
  refine sv (fa38_1 rfl) ?_
  refine sv (yLdB rfl Try.isAgg3 (hS.at _) rfl) ?_
  refine sv (ySub rfl rfl ⟨by omega, by omega⟩) ?_
  refine sv (yMove rfl) ?_
  refine sv (yMove rfl) ?_
  refine sv (yAdd rfl rfl ⟨by omega, by omega⟩) ?_
  refine sv (fa38_0 rfl) ?_
  refine sv (yLdB rfl Try.isAgg3 (hS.at _) rfl) ?_
  refine sv (ySub rfl rfl ⟨by omega, by omega⟩) ?_
  refine sv (yBuild Try.zeroValue38 rfl pl38 (.cons rfl rfl (.cons rfl rfl .nil)) rfl) ?_
  refine sst hS rfl rfl Try.sizeOf38 rfl rfl rfl rfl ?_; clear hS; intro w hS
  refine nil ?_
  show Code.wp _ _ _ _ _
  refine wp_ret ?_
  exact retV (resV1 rfl (rc rfl Try.isAgg38 Try.sizeOf38 (hS.at _) rfl rfl)) hS.ext
/-- (barrage/tide.span).empty -/
theorem c_empty {s : Span} {w0 : World} : CV Try.prog 92 #[.agg (spanC s).toArray] w0 (.bool (decide (s.hi < s.lo))) := by
  refine enter Try.func92 rfl Try.ntmps92 rfl ?_
  have hS := St.start w0
  refine seq ?_
  refine region ?_
  refine sbox hS rfl rfl ?_; clear hS; intro b1 w hS
  refine sv (yAsg rfl) ?_
  refine nil ?_
  show Code.wp _ _ _ _ _
  refine seq ?_
  refine region ?_
  refine sv (fa127_0 rfl) ?_
  refine sv (fa38_0 rfl) ?_
  refine sv (yLdB rfl Try.isAgg3 (hS.at _) rfl) ?_
  refine sv (fa127_0 rfl) ?_
  refine sv (fa38_1 rfl) ?_
  refine sv (yLdB rfl Try.isAgg3 (hS.at _) rfl) ?_
  refine sv (yGtr rfl rfl) ?_
  refine sv (yAsg rfl) ?_
  refine nil ?_
  show Code.wp _ _ _ _ _
  refine wp_ret ?_
  exact retV (res1 rfl rfl) hS.ext
/-- barrage/tide.whole -/
theorem c_whole {w0 : World} : CV Try.prog 99 #[] w0 (.agg (spanC ⟨-20000, 20000⟩).toArray) := by
  refine enter Try.func99 rfl Try.ntmps99 rfl ?_
  have hS := St.start w0
  refine seq ?_
  refine region ?_
  refine salloc hS Try.zeroValue127 rfl ?_; clear hS; intro b0 w hS
  refine nil ?_
  show Code.wp _ _ _ _ _
  refine seq ?_
  refine region ?_
  refine sv (yBuild Try.zeroValue38 rfl pl38 (.cons rfl rfl (.cons rfl rfl .nil)) rfl) ?_
  refine sv (yBuild Try.zeroValue127 rfl pl127 (.cons rfl rfl .nil) rfl) ?_
  refine sst hS rfl rfl Try.sizeOf127 rfl rfl rfl rfl ?_; clear hS; intro w hS
  refine nil ?_
  show Code.wp _ _ _ _ _
  refine wp_ret ?_
  exact retV (resV1 rfl (rc rfl Try.isAgg127 Try.sizeOf127 (hS.at _) rfl rfl)) hS.ext
/-- (*barrage/tide.span).cut -/
theorem c_cut {b : Nat} {T : TypeId} {s x : Span} {w0 : World} (hb : w0.heap[b]? = some (.cells (spanC s).toArray T (0, 0))) : CE Try.prog 90 #[.pointer (some ⟨b, 0, none⟩), .agg (spanC x).toArray] w0 (fun v w' => v = .tuple #[] ∧ Put b (.cells (spanC (cutS s x)).toArray T (0, 0)) w0 w') := by
  refine enter Try.func90 rfl Try.ntmps90 rfl ?_
  have hS := StX.start1 (b := b) ⟨_, hb, rfl⟩
  refine seq ?_
  refine region ?_
  refine sbox hS rfl rfl ?_; clear hS; intro b3 w hS
  refine nil ?_
  show Code.wp _ _ _ _ _
  refine region_two mixed [0, 0, 0, 0, 0, 0, 1, 0, 2, 0, 0, 0, 2, 0, 1, 0, 2, 0, 0, 0, 0] 18 22 (fun w => StX [b] w0 w [blk b3 (spanC x) 38, blk b (spanC s) T]) (fun w => StX [b] w0 w [blk b3 (spanC x) 38]) (by kernel_rfl) (fun c a a' w h => by obtain ⟨_, v, hv, _⟩ := h; cases hv) hS (fun _ h => h) (fun _ h => h.sub (.cons_cons _ (List.nil_sublist _))) ?_
  clear hS; intro w hS
  refine hv0 (fun w => (yMove rfl)) ?_
  refine hv0 (fun w => (yMove rfl)) ?_
  refine hv0 (fun w => (yMove rfl)) ?_
  refine hv0 (fun w => (yNil rfl)) ?_
  refine hv0 (fun w => (fa127_0 rfl)) ?_
  refine hv0 (fun w => (fa38_0 rfl)) ?_
  refine hv1 (fun w hS => (yLdB rfl Try.isAgg3 (hS.at _) rfl)) ?_
  refine hv0 (fun w => (fa38_0 rfl)) ?_
  refine hv2 (fun w hS => (yLdB rfl Try.isAgg3 (hS.at _) rfl)) ?_
  refine hv0 (fun w => (yMax rfl rfl)) ?_
  refine hv0 (fun w => (yMove rfl)) ?_
  refine hv0 (fun w => (yNil rfl)) ?_
  refine hv2 (fun w hS => (fa127_0 rfl)) ?_
  refine hv0 (fun w => (fa38_1 rfl)) ?_
  refine hv1 (fun w hS => (yLdB rfl Try.isAgg3 (hS.at _) rfl)) ?_
  refine hv0 (fun w => (fa38_1 rfl)) ?_
  refine hv2 (fun w hS => (yLdB rfl Try.isAgg3 (hS.at _) rfl)) ?_
  refine hv0 (fun w => (yMin rfl rfl)) ?_
  refine hv0 (fun w => (yNil rfl)) ?_
  refine hv0 (fun w => (fa127_0 rfl)) ?_
  refine hv0 (fun w => (fa38_0 rfl)) ?_
  refine hgnil ?_
  show wpR _ _ _ _ _ _ _ _ _ _ _ _
  refine r_step (i := 21) (is := []) (by kernel_rfl) ⟨?_, trivial⟩
  refine ⟨_, rfl, ?_⟩
  refine sst hS rfl rfl Try.sizeOf3 rfl rfl rfl rfl ?_; clear hS; intro w hS
  refine nil ?_
  refine ⟨⟨fun h => absurd h (by decide), fun _ _ => hS.sub (.cons_cons _ (List.nil_sublist _))⟩, ?_⟩
  show wpR _ _ _ _ _ _ _ _ _ _ _ _
  refine r_step (i := 22) (is := []) (by kernel_rfl) ⟨?_, trivial⟩
  refine ⟨_, rfl, ?_⟩
  refine sv (yNil rfl) ?_
  refine nil ?_
  refine ⟨⟨fun _ h => h, fun _ h => h⟩, ?_⟩
  show wpR _ _ _ _ _ _ _ _ _ _ _ _
  refine r_step (i := 23) (is := []) (by kernel_rfl) ⟨?_, trivial⟩
  refine ⟨_, rfl, ?_⟩
  refine sv (fa127_0 rfl) ?_
  refine nil ?_
  refine ⟨⟨fun _ h => h, fun _ h => h⟩, ?_⟩
  show wpR _ _ _ _ _ _ _ _ _ _ _ _
  refine r_step (i := 24) (is := []) (by kernel_rfl) ⟨?_, trivial⟩
  refine ⟨_, rfl, ?_⟩
  refine sv (fa38_1 rfl) ?_
  refine nil ?_
  refine ⟨⟨fun _ h => h, fun _ h => h⟩, ?_⟩
  show wpR _ _ _ _ _ _ _ _ _ _ _ _
  refine r_step (i := 25) (is := []) (by kernel_rfl) ⟨?_, trivial⟩
  refine ⟨_, rfl, ?_⟩
  refine sst hS rfl rfl Try.sizeOf3 rfl rfl rfl rfl ?_; clear hS; intro w hS
  refine nil ?_
  refine ⟨⟨fun h => absurd h (by decide), fun h => absurd h (by decide)⟩, ?_⟩
  show wpR _ _ _ _ _ _ _ _ _ _ _ _
  refine r_end (by kernel_rfl) ?_
  show bodyPost _ _ _ _ _ _
  refine retN (results_none rfl _ _ _) ?_
  exact ⟨rfl, hS.isPut⟩
set_option maxHeartbeats 1000000 in
/-- barrage/tide.says -/
theorem c_says {g : Gauge} {cs : List Value} {t now : Int} {w0 : World} (hg : RGauge w0 cs g) (hok : GaugeOk g) (ht : Bd t 0 200000) : CV Try.prog 69 #[.agg cs.toArray, .int .i64 t, .int .i64 now] w0 (.tuple #[.agg (spanC (saysG g t now).1).toArray, .int .i64 (saysG g t now).2]) := by
  obtain ⟨dv, rv, rfl, hnm, hge, hgr, hsd, hsr⟩ := id hg
  obtain ⟨a, cap, rfl, hcap, hmx, hel⟩ := id hsd
  obtain ⟨a2, cap2, rfl, hcap2, hmx2, hel2⟩ := id hsr
  have hrl := hok.rlen
  have hge := hok.err
  have hgr := hok.rate
  refine enter Try.func69 rfl Try.ntmps69 rfl ?_
  have hS := St.start w0
  refine seq ?_
  refine region ?_
  refine sbox hS rfl rfl ?_; clear hS; intro b3 w hS
  refine salloc hS Try.zeroValue38 rfl ?_; clear hS; intro b6 w hS
  refine sv (yAsg rfl) ?_
  refine nil ?_
  show Code.wp _ _ _ _ _
  refine seq ?_
  refine region ?_
  refine scall Try.call99 .nil c_whole ?_
  rintro _ w ⟨rfl, hE⟩; replace hS := hS.step hE; clear hE
  refine salloc hS Try.zeroValue127 rfl ?_; clear hS; intro b8 w hS
  refine sst hS rfl rfl Try.sizeOf127 rfl rfl rfl rfl ?_; clear hS; intro w hS
  refine sv (yAsg rfl) ?_
  refine nil ?_
  show Code.wp _ _ _ _ _
  refine seq ?_
  refine seq ?_
  refine region ?_
  refine sv (fa34_4 rfl) ?_
  refine sv (yLdB rfl Try.isAgg32 (hS.at _) rfl) ?_
  refine sv (yLen rfl Try.underlying32) ?_
  refine sv (yMove rfl) ?_
  refine nil ?_
  show Code.wp _ _ _ _ _
  refine block ?_
  refine loop (fun f w zz => ∃ (k : Nat) (e : Int), f 1 = .int .i64 t ∧ f 2 = .int .i64 now ∧ f 3 = .pointer (some ⟨b3, 0, none⟩) ∧ f 6 = .pointer (some ⟨b6, 0, none⟩) ∧ f 8 = .pointer (some ⟨b8, 0, none⟩) ∧ f 9 = .int .i64 e ∧ f 15 = .slice a2 g.readings.length cap2 ∧ f 16 = .int .i64 (g.readings.length : Int) ∧ f 17 = .int .i64 (k : Int) ∧ StX [] w0 w [blk b8 (spanC (cuts g t (g.readings.take k))) 127, blk b6 [.int .i64 0, .int .i64 0] 38, blk b3 [.string g.name, .int .i64 g.err, .int .i64 g.rate, .slice a g.datums.length cap, .slice a2 g.readings.length cap2] 34] ∧ (k ≤ g.readings.length) ∧ (e = if k = 0 then 4 else 0) ∧ (∀ x ∈ g.readings.take k, x.tick ≤ now) ∧ zz = g.readings.length - k) _ ⟨_, rfl, 0, 4, rfl, rfl, rfl, rfl, rfl, rfl, rfl, rfl, rfl, hS, (Nat.zero_le _), (rfl), (fun x hx => by cases hx), rfl⟩ ?_
  clear hS
  rintro f w _ ⟨k, e, h1, h2, h3, h6, h8, h9, h15, h16, h17, hS, hk, he, hle, rfl⟩
  refine seq ?_
  refine region ?_
  refine sv (yLss h17 h16) ?_
  refine nil ?_
  show Code.wp _ _ _ _ _
  refine seq ?_
  refine cond rfl (fun c18 => ?_) (fun c18 => ?_)
  ·
    simp only [Bool.and_eq_true, Bool.or_eq_true, Bool.and_eq_false_iff, Bool.or_eq_false_iff, decide_eq_true_eq, decide_eq_false_iff_not, Bool.not_eq_true, Bool.not_eq_false, Bool.not_not, Bool.not_eq_eq_eq_not, Bool.not_true, Bool.not_false, Bool.false_eq_true, Bool.true_eq_false, ne_eq, Decidable.not_not, not_false_eq_true, not_true_eq_false] at c18
    refine skip ?_
    show Code.wp _ _ _ _ _
    refine seq ?_
    refine block ?_
    refine seq ?_
    refine region ?_
    obtain ⟨r, hx, hd⟩ := drop_of (l := g.readings) (k := k) (by omega)
    obtain ⟨b, o, cs, ha, hlen, hcs, hR⟩ := hel2 (k) (by omega)
    obtain rfl : r = g.readings[k] := (List.getElem?_eq_some_iff.1 hx).2.symm
    generalize g.readings[k] = r at hx hd hR
    obtain ⟨rfl, hr1, hr2⟩ := hR
    refine sv (yIxa h15 ha h17 Try.runUnderlying32 Try.sizeOf103 (by omega) (by omega)) ?_
    refine sv (yLdA rfl Try.isAgg103 Try.sizeOf103 (hcs.ext hS.ext) rfl) ?_
    refine salloc hS Try.zeroValue103 rfl ?_; clear hS; intro b11 w hS
    refine sst hS rfl rfl Try.sizeOf103 rfl rfl rfl rfl ?_; clear hS; intro w hS
    refine nil ?_
    show Code.wp _ _ _ _ _
    refine seq ?_
    refine seq ?_
    refine region ?_
    refine sv (fa103_0 rfl) ?_
    refine sv (yLdB rfl Try.isAgg3 (hS.at _) rfl) ?_
    refine sv (yMove h2) ?_
    refine sv (yGtr rfl rfl) ?_
    refine nil ?_
    show Code.wp _ _ _ _ _
    refine cond rfl (fun c24 => ?_) (fun c24 => ?_)
    ·
      simp only [Bool.and_eq_true, Bool.or_eq_true, Bool.and_eq_false_iff, Bool.or_eq_false_iff, decide_eq_true_eq, decide_eq_false_iff_not, Bool.not_eq_true, Bool.not_eq_false, Bool.not_not, Bool.not_eq_eq_eq_not, Bool.not_true, Bool.not_false, Bool.false_eq_true, Bool.true_eq_false, ne_eq, Decidable.not_not, not_false_eq_true, not_true_eq_false] at c24
      have hK := known_stop hok.rasc hx hle c24
      refine exit ?_
      show Code.wp _ _ _ _ _
      refine seq ?_
      refine block ?_
      refine seq ?_
      refine region ?_
      refine sv (yMove h9) ?_
      refine sv (yNeq rfl rfl) ?_
      refine sv (yAsg rfl) ?_
      refine nil ?_
      show Code.wp _ _ _ _ _
      refine cond rfl (fun c54 => ?_) (fun c54 => ?_)
      ·
        simp only [Bool.and_eq_true, Bool.or_eq_true, Bool.and_eq_false_iff, Bool.or_eq_false_iff, decide_eq_true_eq, decide_eq_false_iff_not, Bool.not_eq_true, Bool.not_eq_false, Bool.not_not, Bool.not_eq_eq_eq_not, Bool.not_true, Bool.not_false, Bool.false_eq_true, Bool.true_eq_false, ne_eq, Decidable.not_not, not_false_eq_true, not_true_eq_false] at c54
        refine seq ?_
        refine region ?_
        refine sv (yBuild Try.zeroValue38 rfl pl38 .nil rfl) ?_
        refine sv (yMove h9) ?_
        refine sst hS h6 rfl Try.sizeOf38 rfl rfl rfl rfl ?_; clear hS; intro w hS
        refine sv (yAsg rfl) ?_
        refine nil ?_
        show Code.wp _ _ _ _ _
        have hk0 : k = 0 := Decidable.byContradiction fun h => c54 (by rw [he, if_neg h])
        subst hk0
        have hfin := saysG_none (t := t) hK
        refine wp_ret (blockR (thenR ?_))
        exact retV (resV2 rfl (rc h6 Try.isAgg38 Try.sizeOf38 (hS.at _) (by rw [hfin]; rfl) rfl) (rt (eqI (by rw [hfin, he]; rfl)))) hS.ext
      ·
        simp only [Bool.and_eq_true, Bool.or_eq_true, Bool.and_eq_false_iff, Bool.or_eq_false_iff, decide_eq_true_eq, decide_eq_false_iff_not, Bool.not_eq_true, Bool.not_eq_false, Bool.not_not, Bool.not_eq_eq_eq_not, Bool.not_true, Bool.not_false, Bool.false_eq_true, Bool.true_eq_false, ne_eq, Decidable.not_not, not_false_eq_true, not_true_eq_false] at c54
        refine seq ?_
        refine region ?_
        refine sv (yLdBA h8 Try.isAgg127 Try.sizeOf127 (hS.at _) rfl rfl) ?_
        refine scall Try.call92 (.cons rfl .nil) c_empty ?_
        rintro _ w ⟨rfl, hE⟩; replace hS := hS.step hE; clear hE
        refine sv (yAsg rfl) ?_
        refine nil ?_
        show Code.wp _ _ _ _ _
        refine cond rfl (fun c59 => ?_) (fun c59 => ?_)
        ·
          simp only [Bool.and_eq_true, Bool.or_eq_true, Bool.and_eq_false_iff, Bool.or_eq_false_iff, decide_eq_true_eq, decide_eq_false_iff_not, Bool.not_eq_true, Bool.not_eq_false, Bool.not_not, Bool.not_eq_eq_eq_not, Bool.not_true, Bool.not_false, Bool.false_eq_true, Bool.true_eq_false, ne_eq, Decidable.not_not, not_false_eq_true, not_true_eq_false] at c59
          refine seq ?_
          refine region ?_
          refine sv (yBuild Try.zeroValue38 rfl pl38 .nil rfl) ?_
          refine sst hS h6 rfl Try.sizeOf38 rfl rfl rfl rfl ?_; clear hS; intro w hS
          refine sv (yAsg rfl) ?_
          refine nil ?_
          show Code.wp _ _ _ _ _
          have hk0 : k ≠ 0 := fun h => by rw [he, if_pos h] at c54; exact absurd c54 (by decide)
          have hfin := saysG_down (t := t) hK (fun h => hk0 ((take_nil_iff hk).1 h)) c59
          refine wp_ret (blockR (thenR ?_))
          exact retV (resV2 rfl (rc h6 Try.isAgg38 Try.sizeOf38 (hS.at _) (by rw [hfin]; rfl) rfl) (rt (eqI (by rw [hfin])))) hS.ext
        ·
          simp only [Bool.and_eq_true, Bool.or_eq_true, Bool.and_eq_false_iff, Bool.or_eq_false_iff, decide_eq_true_eq, decide_eq_false_iff_not, Bool.not_eq_true, Bool.not_eq_false, Bool.not_not, Bool.not_eq_eq_eq_not, Bool.not_true, Bool.not_false, Bool.false_eq_true, Bool.true_eq_false, ne_eq, Decidable.not_not, not_false_eq_true, not_true_eq_false] at c59
          refine skip ?_
          show Code.wp _ _ _ _ _
          refine seq ?_
          refine region ?_
          refine sv (fa127_0 h8) ?_
          refine sv (yLdBA rfl Try.isAgg38 Try.sizeOf38 (hS.at _) rfl rfl) ?_
          refine sst hS h6 rfl Try.sizeOf38 rfl rfl rfl rfl ?_; clear hS; intro w hS
          refine sv (yAsg rfl) ?_
          refine nil ?_
          show Code.wp _ _ _ _ _
          have hk0 : k ≠ 0 := fun h => by rw [he, if_pos h] at c54; exact absurd c54 (by decide)
          have hfin := saysG_ok (t := t) hK (fun h => hk0 ((take_nil_iff hk).1 h)) c59
          refine wp_ret ?_
          exact retV (resV2 rfl (rc h6 Try.isAgg38 Try.sizeOf38 (hS.at _) (by rw [hfin]; rfl) rfl) (rt (eqI (by rw [hfin])))) hS.ext
    ·
      simp only [Bool.and_eq_true, Bool.or_eq_true, Bool.and_eq_false_iff, Bool.or_eq_false_iff, decide_eq_true_eq, decide_eq_false_iff_not, Bool.not_eq_true, Bool.not_eq_false, Bool.not_not, Bool.not_eq_eq_eq_not, Bool.not_true, Bool.not_false, Bool.false_eq_true, Bool.true_eq_false, ne_eq, Decidable.not_not, not_false_eq_true, not_true_eq_false] at c24
      have hro := hok.reads r (List.mem_of_getElem? hx)
      have hrt := hro.tick
      have hrv := hro.value
      have hfb := farR_bd hok ht hro
      have hmb : Bd (g.rate * max (t - r.tick) (r.tick - t)) 0 1000000000 := hfb
      refine skip ?_
      show Code.wp _ _ _ _ _
      refine seq ?_
      refine region ?_
      refine sv (fa34_2 h3) ?_
      refine sv (yLdB rfl Try.isAgg3 (hS.at _) rfl) ?_
      refine sv (yMove h1) ?_
      refine sv (fa103_0 rfl) ?_
      refine sv (yLdB rfl Try.isAgg3 (hS.at _) rfl) ?_
      refine sv (ySub rfl rfl ⟨by omega, by omega⟩) ?_
      refine sv (fa103_0 rfl) ?_
      refine sv (yLdB rfl Try.isAgg3 (hS.at _) rfl) ?_
      refine sv (yMove h1) ?_
      refine sv (ySub rfl rfl ⟨by omega, by omega⟩) ?_
      refine sv (yMax rfl rfl) ?_
      refine sv (yMul rfl rfl ⟨by omega, by omega⟩) ?_
      refine sv (yAsg rfl) ?_
      refine nil ?_
      show Code.wp _ _ _ _ _
      refine seq ?_
      refine region_tail mixed 15 (by kernel_rfl) hS ?_
      obtain ⟨d, hxd, hds, hdok⟩ := datum_at hok hro.tick.1
      have hdl := datI_lt hok hro.tick.1
      obtain ⟨b1, o1, cs1, ha1, hlen1, hcs1, hR1⟩ := hel _ hdl
      obtain rfl : d = g.datums[datI g.datums r.tick] := (List.getElem?_eq_some_iff.1 hxd).2.symm
      generalize g.datums[datI g.datums r.tick] = d at hR1 hds hdok
      obtain ⟨rfl, _⟩ := hR1
      have hdb := hdok.shift
      refine qv (fun w hS => (fa103_1 rfl)) ?_
      refine qv (fun w hS => (yLdB rfl Try.isAgg3 (hS.at _) rfl)) ?_
      refine qv (fun w hS => (fa34_1 h3)) ?_
      refine qv (fun w hS => (yLdB rfl Try.isAgg3 (hS.at _) rfl)) ?_
      refine qv (fun w hS => (yMove rfl)) ?_
      refine qv (fun w hS => (yAdd rfl rfl ⟨by omega, by omega⟩)) ?_
      refine qv (fun w hS => (fa34_3 h3)) ?_
      refine qv (fun w hS => (yLdB rfl Try.isAgg31 (hS.at _) rfl)) ?_
      refine qv (fun w hS => (yLdBA h3 Try.isAgg34 Try.sizeOf34 (hS.at _) rfl rfl)) ?_
      refine qv (fun w hS => (yLdBA rfl Try.isAgg103 Try.sizeOf103 (hS.at _) rfl rfl)) ?_
      refine qcall Try.call89 (.cons rfl (.cons rfl .nil)) (fun w hS => (c_datum (r := r) (hg.ext hS.ext) hok hro.tick.1)) ?_
      refine qv (fun w hS => (yIxa rfl ha1 rfl Try.runUnderlying31 Try.sizeOf78 (by omega) (by omega))) ?_
      refine qv (fun w hS => (fa78_1 rfl)) ?_
      refine qv (fun w hS => (yLdA rfl Try.isAgg38 Try.sizeOf38 ((hcs1.mid (xs := spanC d.shift) 1 rfl).ext hS.ext) rfl)) ?_
      refine qcall Try.call91 (.cons rfl (.cons rfl (.cons rfl .nil))) (fun w hS => (c_around (s := d.shift) ⟨by omega, by omega⟩ ⟨by omega, by omega⟩ ⟨⟨by omega, by omega⟩, ⟨by omega, by omega⟩⟩)) ?_
      clear hS; refine qtl (fun w hS => ?_)
      refine scall Try.call90 (.cons h8 (.cons rfl .nil)) (c_cut (hS.at b8)) ?_; rintro _ w ⟨rfl, hput⟩; replace hS := hS.put hput; clear hput; rw [hds] at hS
      refine nil ?_
      show Code.wp _ _ _ _ _
      refine region ?_
      refine sv (yAsg rfl) ?_
      refine nil ?_
      show Code.wp _ _ _ _ _
      refine region ?_
      refine sv (yAdd h17 rfl ⟨by omega, by omega⟩) ?_
      refine sv (yMove rfl) ?_
      refine nil ?_
      exact ⟨_, _, rfl, ⟨k + 1, 0, h1, h2, h3, h6, h8, rfl, h15, h16, rfl, (by rw [take_snoc hx, cuts_snoc]; exact hS.sub (.cons _ (List.Sublist.refl _))), (by omega), (rfl), (fun x hx' => by rw [take_snoc hx] at hx'; rcases List.mem_append.1 hx' with h | h; exact hle x h; rw [List.mem_singleton.1 h]; omega), rfl⟩, by omega⟩
  ·
    simp only [Bool.and_eq_true, Bool.or_eq_true, Bool.and_eq_false_iff, Bool.or_eq_false_iff, decide_eq_true_eq, decide_eq_false_iff_not, Bool.not_eq_true, Bool.not_eq_false, Bool.not_not, Bool.not_eq_eq_eq_not, Bool.not_true, Bool.not_false, Bool.false_eq_true, Bool.true_eq_false, ne_eq, Decidable.not_not, not_false_eq_true, not_true_eq_false] at c18
    have hK : known g.readings now = g.readings.take k := by rw [List.take_of_length_le (by omega)] at hle ⊢; exact known_all hle
    refine exit ?_
    show Code.wp _ _ _ _ _
    refine seq ?_
    refine block ?_
    refine seq ?_
    refine region ?_
    refine sv (yMove h9) ?_
    refine sv (yNeq rfl rfl) ?_
    refine sv (yAsg rfl) ?_
    refine nil ?_
    show Code.wp _ _ _ _ _
    refine cond rfl (fun c54 => ?_) (fun c54 => ?_)
    ·
      simp only [Bool.and_eq_true, Bool.or_eq_true, Bool.and_eq_false_iff, Bool.or_eq_false_iff, decide_eq_true_eq, decide_eq_false_iff_not, Bool.not_eq_true, Bool.not_eq_false, Bool.not_not, Bool.not_eq_eq_eq_not, Bool.not_true, Bool.not_false, Bool.false_eq_true, Bool.true_eq_false, ne_eq, Decidable.not_not, not_false_eq_true, not_true_eq_false] at c54
      refine seq ?_
      refine region ?_
      refine sv (yBuild Try.zeroValue38 rfl pl38 .nil rfl) ?_
      refine sv (yMove h9) ?_
      refine sst hS h6 rfl Try.sizeOf38 rfl rfl rfl rfl ?_; clear hS; intro w hS
      refine sv (yAsg rfl) ?_
      refine nil ?_
      show Code.wp _ _ _ _ _
      have hk0 : k = 0 := Decidable.byContradiction fun h => c54 (by rw [he, if_neg h])
      subst hk0
      have hfin := saysG_none (t := t) hK
      refine wp_ret (blockR (thenR ?_))
      exact retV (resV2 rfl (rc h6 Try.isAgg38 Try.sizeOf38 (hS.at _) (by rw [hfin]; rfl) rfl) (rt (eqI (by rw [hfin, he]; rfl)))) hS.ext
    ·
      simp only [Bool.and_eq_true, Bool.or_eq_true, Bool.and_eq_false_iff, Bool.or_eq_false_iff, decide_eq_true_eq, decide_eq_false_iff_not, Bool.not_eq_true, Bool.not_eq_false, Bool.not_not, Bool.not_eq_eq_eq_not, Bool.not_true, Bool.not_false, Bool.false_eq_true, Bool.true_eq_false, ne_eq, Decidable.not_not, not_false_eq_true, not_true_eq_false] at c54
      refine seq ?_
      refine region ?_
      refine sv (yLdBA h8 Try.isAgg127 Try.sizeOf127 (hS.at _) rfl rfl) ?_
      refine scall Try.call92 (.cons rfl .nil) c_empty ?_
      rintro _ w ⟨rfl, hE⟩; replace hS := hS.step hE; clear hE
      refine sv (yAsg rfl) ?_
      refine nil ?_
      show Code.wp _ _ _ _ _
      refine cond rfl (fun c59 => ?_) (fun c59 => ?_)
      ·
        simp only [Bool.and_eq_true, Bool.or_eq_true, Bool.and_eq_false_iff, Bool.or_eq_false_iff, decide_eq_true_eq, decide_eq_false_iff_not, Bool.not_eq_true, Bool.not_eq_false, Bool.not_not, Bool.not_eq_eq_eq_not, Bool.not_true, Bool.not_false, Bool.false_eq_true, Bool.true_eq_false, ne_eq, Decidable.not_not, not_false_eq_true, not_true_eq_false] at c59
        refine seq ?_
        refine region ?_
        refine sv (yBuild Try.zeroValue38 rfl pl38 .nil rfl) ?_
        refine sst hS h6 rfl Try.sizeOf38 rfl rfl rfl rfl ?_; clear hS; intro w hS
        refine sv (yAsg rfl) ?_
        refine nil ?_
        show Code.wp _ _ _ _ _
        have hk0 : k ≠ 0 := fun h => by rw [he, if_pos h] at c54; exact absurd c54 (by decide)
        have hfin := saysG_down (t := t) hK (fun h => hk0 ((take_nil_iff hk).1 h)) c59
        refine wp_ret (blockR (thenR ?_))
        exact retV (resV2 rfl (rc h6 Try.isAgg38 Try.sizeOf38 (hS.at _) (by rw [hfin]; rfl) rfl) (rt (eqI (by rw [hfin])))) hS.ext
      ·
        simp only [Bool.and_eq_true, Bool.or_eq_true, Bool.and_eq_false_iff, Bool.or_eq_false_iff, decide_eq_true_eq, decide_eq_false_iff_not, Bool.not_eq_true, Bool.not_eq_false, Bool.not_not, Bool.not_eq_eq_eq_not, Bool.not_true, Bool.not_false, Bool.false_eq_true, Bool.true_eq_false, ne_eq, Decidable.not_not, not_false_eq_true, not_true_eq_false] at c59
        refine skip ?_
        show Code.wp _ _ _ _ _
        refine seq ?_
        refine region ?_
        refine sv (fa127_0 h8) ?_
        refine sv (yLdBA rfl Try.isAgg38 Try.sizeOf38 (hS.at _) rfl rfl) ?_
        refine sst hS h6 rfl Try.sizeOf38 rfl rfl rfl rfl ?_; clear hS; intro w hS
        refine sv (yAsg rfl) ?_
        refine nil ?_
        show Code.wp _ _ _ _ _
        have hk0 : k ≠ 0 := fun h => by rw [he, if_pos h] at c54; exact absurd c54 (by decide)
        have hfin := saysG_ok (t := t) hK (fun h => hk0 ((take_nil_iff hk).1 h)) c59
        refine wp_ret ?_
        exact retV (resV2 rfl (rc h6 Try.isAgg38 Try.sizeOf38 (hS.at _) (by rw [hfin]; rfl) rfl) (rt (eqI (by rw [hfin])))) hS.ext
end Go.Proofs.Ytpgmehignepidaa
/- part Wk6 -/
namespace Go.Proofs.Ytpgmehignepidaa
open Go Bx
set_option maxHeartbeats 1000000 in
/-- barrage/tide.Says -/
theorem c_Says {g : Gauge} {cs : List Value} {t now : Int} {w0 : World} (hg : RGauge w0 cs g) (ht : I64 t) (hn : I64 now) : CV Try.prog 26 #[.agg cs.toArray, .int .i64 t, .int .i64 now] w0 (.tuple #[.agg (spanC (saysF g t now).1).toArray, .int .i64 (saysF g t now).2]) := by
  obtain ⟨dv, rv, rfl, hnm, hge, hgr, hsd, hsr⟩ := id hg
  obtain ⟨a, cap, rfl, hcap, hmx, hel⟩ := id hsd
  obtain ⟨a2, cap2, rfl, hcap2, hmx2, hel2⟩ := id hsr
  refine enter Try.func26 rfl Try.ntmps26 rfl ?_
  have hS := St.start w0
  refine seq ?_
  refine region ?_
  refine sbox hS rfl rfl ?_; clear hS; intro b3 w hS
  refine salloc hS Try.zeroValue38 rfl ?_; clear hS; intro b6 w hS
  refine sv (yAsg rfl) ?_
  refine nil ?_
  show Code.wp _ _ _ _ _
  refine seq ?_
  refine region ?_
  refine sv (yLdBA rfl Try.isAgg34 Try.sizeOf34 (hS.at _) rfl rfl) ?_
  refine scall Try.call24 (.cons rfl .nil) (c_CheckGauge (hg.ext hS.ext)) ?_
  rintro _ w ⟨rfl, hE⟩; replace hS := hS.step hE; clear hE
  refine sv (yMove rfl) ?_
  refine sv (yExt rfl rfl) ?_
  refine sv (yExt rfl rfl) ?_
  refine sv (yExt rfl rfl) ?_
  refine sv (yAsg rfl) ?_
  refine sv (yAsg rfl) ?_
  refine sv (yAsg rfl) ?_
  refine nil ?_
  show Code.wp _ _ _ _ _
  refine seq ?_
  refine seq ?_
  refine region ?_
  refine sv (yMove rfl) ?_
  refine sv (yEql rfl rfl) ?_
  refine nil ?_
  show Code.wp _ _ _ _ _
  refine cond rfl (fun c18 => ?_) (fun c18 => ?_)
  ·
    simp only [Bool.and_eq_true, Bool.or_eq_true, Bool.and_eq_false_iff, Bool.or_eq_false_iff, decide_eq_true_eq, decide_eq_false_iff_not, Bool.not_eq_true, Bool.not_eq_false, Bool.not_not, Bool.not_eq_eq_eq_not, Bool.not_true, Bool.not_false, Bool.false_eq_true, Bool.true_eq_false, ne_eq, Decidable.not_not, not_false_eq_true, not_true_eq_false] at c18
    have hE : saysE g t now = ticksE [t, now] := by unfold saysE; rw [if_pos c18]
    refine region ?_
    refine sv (yMove rfl) ?_
    refine sv (yMove rfl) ?_
    refine sbslice hS Try.underlying44 Try.sizeOf3 rfl Try.zeroValue3 rfl (.cons rfl rfl (.cons rfl rfl .nil)) rfl ?_; clear hS; intro b21 w hS
    refine scall Try.call68 (.cons rfl .nil) (c_ticks (l := [t, now]) (ints_sl (l := [t, now]) (hS.at b21) (by simp; exact ⟨ht, hn⟩) (Nat.le_of_ble_eq_true rfl))) ?_
    rintro _ w ⟨rfl, hE⟩; replace hS := hS.step hE; clear hE
    refine sv (yAsg rfl) ?_
    refine nil ?_
    show Code.wp _ _ _ _ _
    refine seq ?_
    refine seq ?_
    refine region ?_
    refine sv (yMove rfl) ?_
    refine sv (yNeq rfl rfl) ?_
    refine nil ?_
    show Code.wp _ _ _ _ _
    refine cond rfl (fun c24 => ?_) (fun c24 => ?_)
    ·
      simp only [Bool.and_eq_true, Bool.or_eq_true, Bool.and_eq_false_iff, Bool.or_eq_false_iff, decide_eq_true_eq, decide_eq_false_iff_not, Bool.not_eq_true, Bool.not_eq_false, Bool.not_not, Bool.not_eq_eq_eq_not, Bool.not_true, Bool.not_false, Bool.false_eq_true, Bool.true_eq_false, ne_eq, Decidable.not_not, not_false_eq_true, not_true_eq_false] at c24
      refine seq ?_
      refine region ?_
      refine sv (yBuild Try.zeroValue38 rfl pl38 .nil rfl) ?_
      refine sv (yMove rfl) ?_
      refine sst hS rfl rfl Try.sizeOf38 rfl rfl rfl rfl ?_; clear hS; intro w hS
      refine sv (yAsg rfl) ?_
      refine nil ?_
      show Code.wp _ _ _ _ _
      have hfin : saysF g t now = (⟨0, 0⟩, saysE g t now) := by unfold saysF; rw [if_pos (by rw [hE]; exact c24)]
      refine wp_ret (thenR ?_)
      exact retV (resV2 rfl (rc rfl Try.isAgg38 Try.sizeOf38 (hS.at _) (by rw [hfin]; rfl) rfl) (rt (eqI (by rw [hfin]; first | rfl | exact hE)))) hS.ext
    ·
      simp only [Bool.and_eq_true, Bool.or_eq_true, Bool.and_eq_false_iff, Bool.or_eq_false_iff, decide_eq_true_eq, decide_eq_false_iff_not, Bool.not_eq_true, Bool.not_eq_false, Bool.not_not, Bool.not_eq_eq_eq_not, Bool.not_true, Bool.not_false, Bool.false_eq_true, Bool.true_eq_false, ne_eq, Decidable.not_not, not_false_eq_true, not_true_eq_false] at c24
      have hE0 : saysE g t now = 0 := by rw [hE, c24]
      obtain ⟨hok, htb, hnb⟩ := saysE_ok hE0
      have hfin : saysF g t now = saysG g t now := by unfold saysF; rw [if_neg (fun h => h hE0)]
      refine skip ?_
      show Code.wp _ _ _ _ _
      refine seq ?_
      refine region ?_
      refine sv (yLdBA rfl Try.isAgg34 Try.sizeOf34 (hS.at _) rfl rfl) ?_
      refine sv (yMove rfl) ?_
      refine sv (yMove rfl) ?_
      refine scall Try.call69 (.cons rfl (.cons rfl (.cons rfl .nil))) (c_says (hg.ext hS.ext) hok htb) ?_
      rintro _ w ⟨rfl, hE⟩; replace hS := hS.step hE; clear hE
      refine sv (yExt rfl rfl) ?_
      refine sv (yExt rfl rfl) ?_
      refine sst hS rfl rfl Try.sizeOf38 rfl rfl rfl rfl ?_; clear hS; intro w hS
      refine sv (yAsg rfl) ?_
      refine nil ?_
      show Code.wp _ _ _ _ _
      refine wp_ret ?_
      exact retV (resV2 rfl (rc rfl Try.isAgg38 Try.sizeOf38 (hS.at _) (by rw [hfin]; rfl) rfl) (rt (eqI (by rw [hfin])))) hS.ext
  ·
    simp only [Bool.and_eq_true, Bool.or_eq_true, Bool.and_eq_false_iff, Bool.or_eq_false_iff, decide_eq_true_eq, decide_eq_false_iff_not, Bool.not_eq_true, Bool.not_eq_false, Bool.not_not, Bool.not_eq_eq_eq_not, Bool.not_true, Bool.not_false, Bool.false_eq_true, Bool.true_eq_false, ne_eq, Decidable.not_not, not_false_eq_true, not_true_eq_false] at c18
    have hE : saysE g t now = (checkG g).2.2 := by unfold saysE; rw [if_neg c18]
    refine skip ?_
    show Code.wp _ _ _ _ _
    refine seq ?_
    refine seq ?_
    refine region ?_
    refine sv (yMove rfl) ?_
    refine sv (yNeq rfl rfl) ?_
    refine nil ?_
    show Code.wp _ _ _ _ _
    refine cond rfl (fun c24 => ?_) (fun c24 => ?_)
    ·
      simp only [Bool.and_eq_true, Bool.or_eq_true, Bool.and_eq_false_iff, Bool.or_eq_false_iff, decide_eq_true_eq, decide_eq_false_iff_not, Bool.not_eq_true, Bool.not_eq_false, Bool.not_not, Bool.not_eq_eq_eq_not, Bool.not_true, Bool.not_false, Bool.false_eq_true, Bool.true_eq_false, ne_eq, Decidable.not_not, not_false_eq_true, not_true_eq_false] at c24
      refine seq ?_
      refine region ?_
      refine sv (yBuild Try.zeroValue38 rfl pl38 .nil rfl) ?_
      refine sv (yMove rfl) ?_
      refine sst hS rfl rfl Try.sizeOf38 rfl rfl rfl rfl ?_; clear hS; intro w hS
      refine sv (yAsg rfl) ?_
      refine nil ?_
      show Code.wp _ _ _ _ _
      have hfin : saysF g t now = (⟨0, 0⟩, saysE g t now) := by unfold saysF; rw [if_pos (by rw [hE]; exact c24)]
      refine wp_ret (thenR ?_)
      exact retV (resV2 rfl (rc rfl Try.isAgg38 Try.sizeOf38 (hS.at _) (by rw [hfin]; rfl) rfl) (rt (eqI (by rw [hfin]; first | rfl | exact hE)))) hS.ext
    ·
      simp only [Bool.and_eq_true, Bool.or_eq_true, Bool.and_eq_false_iff, Bool.or_eq_false_iff, decide_eq_true_eq, decide_eq_false_iff_not, Bool.not_eq_true, Bool.not_eq_false, Bool.not_not, Bool.not_eq_eq_eq_not, Bool.not_true, Bool.not_false, Bool.false_eq_true, Bool.true_eq_false, ne_eq, Decidable.not_not, not_false_eq_true, not_true_eq_false] at c24
      exact absurd c24 c18
set_option maxHeartbeats 2000000 in
/-- barrage/barrageref01.CheckGauge -/
theorem c_rCheckGauge {g : Gauge} {cs : List Value} {w0 : World} (hg : RGauge w0 cs g) : CV Try.prog 25 #[.agg cs.toArray] w0 (.tuple #[.int .i64 (checkG g).1, .int .i64 (checkG g).2.1, .int .i64 (checkG g).2.2]) := by
  obtain ⟨dv, rv, rfl, hnm, hge, hgr, hsd, hsr⟩ := id hg
  obtain ⟨a, cap, rfl, hcap, hmx, hel⟩ := id hsd
  obtain ⟨a2, cap2, rfl, hcap2, hmx2, hel2⟩ := id hsr
  refine enter Try.func25 rfl Try.ntmps25 rfl ?_
  have hS := St.start w0
  refine seq ?_
  refine region ?_
  refine sbox hS rfl rfl ?_; clear hS; intro b1 w hS
  refine sv (yAsg rfl) ?_
  refine sv (yAsg rfl) ?_
  refine sv (yAsg rfl) ?_
  refine nil ?_
  show Code.wp _ _ _ _ _
  refine seq ?_
  refine seq ?_
  refine region ?_
  refine sv (fa34_0 rfl) ?_
  refine sv (yLdB rfl Try.isAgg9 (hS.at _) rfl) ?_
  refine scall Try.call22 (.cons rfl .nil) (c_rName hnm) ?_
  rintro _ w ⟨rfl, hE⟩; replace hS := hS.step hE; clear hE
  refine sv (yNot rfl) ?_
  refine nil ?_
  show Code.wp _ _ _ _ _
  refine cond rfl (fun c13 => ?_) (fun c13 => ?_)
  ·
    refine seq ?_
    refine region ?_
    refine sv (yAsg rfl) ?_
    refine sv (yAsg rfl) ?_
    refine sv (yAsg rfl) ?_
    refine nil ?_
    show Code.wp _ _ _ _ _
    have hge0 : gErr g = 6 := by unfold gErr; rw [if_pos c13]
    have hfin : checkG g = (1, 0, gErr g) := by unfold checkG; rw [if_pos (by rw [hge0]; decide)]
    rw [hge0] at hfin
    refine wp_ret (thenR ?_)
    exact retV (res3 rfl (fstI hfin) (thd1I hfin) (thd2I hfin)) hS.ext
  ·
    refine skip ?_
    show Code.wp _ _ _ _ _
    refine seq ?_
    refine seq ?_
    refine region ?_
    refine sv (fa34_1 rfl) ?_
    refine sv (yLdB rfl Try.isAgg3 (hS.at _) rfl) ?_
    refine scall Try.call63 (.cons rfl (.cons rfl (.cons rfl .nil))) c_in ?_
    rintro _ w ⟨rfl, hE⟩; replace hS := hS.step hE; clear hE
    refine sv (yNot rfl) ?_
    refine sv (yMove rfl) ?_
    refine sg rfl rfl rfl (fun g => (fa34_2 rfl)) (fun v19 g19 => ?_)
    refine sg rfl rfl rfl (fun g => (yLdB (g19.1 g) Try.isAgg3 (hS.at _) rfl)) (fun v20 g20 => ?_)
    refine sgc hS rfl rfl rfl Try.call63 (fun g => (.cons (g20.1 g) (.cons rfl (.cons rfl .nil)))) (fun g => c_in) ?_; clear hS; intro v21 w hS g21
    refine sg rfl rfl rfl (fun g => (yNot (g21.1 g))) (fun v22 g22 => ?_)
    refine sv (yOr rfl rfl (fun hB => (g22.1 hB))) ?_
    refine nil ?_
    show Code.wp _ _ _ _ _
    refine cond rfl (fun c23 => ?_) (fun c23 => ?_)
    ·
      simp only [← outB_inB] at c23
      refine seq ?_
      refine region ?_
      refine sv (yAsg rfl) ?_
      refine sv (yAsg rfl) ?_
      refine sv (yAsg rfl) ?_
      refine nil ?_
      show Code.wp _ _ _ _ _
      have hge0 : gErr g = 7 := by unfold gErr; rw [if_neg (by rw [c13]; decide), if_pos c23]
      have hfin : checkG g = (1, 0, gErr g) := by unfold checkG; rw [if_pos (by rw [hge0]; decide)]
      rw [hge0] at hfin
      refine wp_ret (thenR ?_)
      exact retV (res3 rfl (fstI hfin) (thd1I hfin) (thd2I hfin)) hS.ext
    ·
      simp only [← outB_inB] at c23
      refine skip ?_
      show Code.wp _ _ _ _ _
      refine seq ?_
      refine seq ?_
      refine region ?_
      refine sv (fa34_3 rfl) ?_
      refine sv (yLdB rfl Try.isAgg31 (hS.at _) rfl) ?_
      refine sv (yLen rfl Try.underlying31) ?_
      refine scall Try.call63 (.cons rfl (.cons rfl (.cons rfl .nil))) c_in ?_
      rintro _ w ⟨rfl, hE⟩; replace hS := hS.step hE; clear hE
      refine sv (yNot rfl) ?_
      refine nil ?_
      show Code.wp _ _ _ _ _
      refine cond rfl (fun c28 => ?_) (fun c28 => ?_)
      ·
        simp only [← outB_inB] at c28
        refine seq ?_
        refine region ?_
        refine sv (yAsg rfl) ?_
        refine sv (yAsg rfl) ?_
        refine sv (yAsg rfl) ?_
        refine nil ?_
        show Code.wp _ _ _ _ _
        have hfin : checkG g = (2, 0, 3) := by unfold checkG; rw [if_neg (fun h => h (by unfold gErr; rw [if_neg (by rw [c13]; decide), if_neg (by rw [c23]; decide)])), if_pos c28]
        refine wp_ret (thenR ?_)
        exact retV (res3 rfl (fstI hfin) (thd1I hfin) (thd2I hfin)) hS.ext
      ·
        simp only [← outB_inB] at c28
        have hge0 : gErr g = 0 := by unfold gErr; rw [if_neg (by rw [c13]; decide), if_neg (by rw [c23]; decide)]
        refine skip ?_
        show Code.wp _ _ _ _ _
        refine seq ?_
        refine seq ?_
        refine region ?_
        refine sv (yAsg rfl) ?_
        refine nil ?_
        show Code.wp _ _ _ _ _
        refine block ?_
        refine loop (fun f w zz => ∃ (k : Nat) (bef : Int), f 1 = .pointer (some ⟨b1, 0, none⟩) ∧ f 5 = .int .i64 (k : Int) ∧ StX [] w0 w [blk b1 [.string g.name, .int .i64 g.err, .int .i64 g.rate, .slice a g.datums.length cap, .slice a2 g.readings.length cap2] 34] ∧ (k ≤ g.datums.length) ∧ (Bd bef (-1) 200000) ∧ ((k = 0 ∧ bef = -1) ∨ ∃ p, 0 < k ∧ g.datums[k - 1]? = some p ∧ bef = p.start ∧ 0 ≤ bef) ∧ (checkG g = checkD (checkRs g) (g.datums.drop k) bef k) ∧ zz = g.datums.length - k) _ ⟨_, rfl, 0, -1, rfl, rfl, hS, (Nat.zero_le _), (by omega), (.inl ⟨rfl, rfl⟩), (by unfold checkG; rw [if_neg (fun h => h hge0), if_neg (by rw [c28]; decide)]; rfl), rfl⟩ ?_
        clear hS
        rintro f w _ ⟨k, bef, h1, h5, hS, hk, hb, hprev, hI, rfl⟩
        refine seq ?_
        refine seq ?_
        refine region ?_
        refine sv (yMove h5) ?_
        refine sv (fa34_3 h1) ?_
        refine sv (yLdB rfl Try.isAgg31 (hS.at _) rfl) ?_
        refine sv (yLen rfl Try.underlying31) ?_
        refine sv (yLss rfl rfl) ?_
        refine nil ?_
        show Code.wp _ _ _ _ _
        refine cond rfl (fun c33 => ?_) (fun c33 => ?_)
        ·
          simp only [Bool.and_eq_true, Bool.or_eq_true, Bool.and_eq_false_iff, Bool.or_eq_false_iff, decide_eq_true_eq, decide_eq_false_iff_not, Bool.not_eq_true, Bool.not_eq_false, Bool.not_not, Bool.not_eq_eq_eq_not, Bool.not_true, Bool.not_false, Bool.false_eq_true, Bool.true_eq_false, ne_eq, Decidable.not_not, not_false_eq_true, not_true_eq_false] at c33
          obtain ⟨d, hx, hd⟩ := drop_of (l := g.datums) (k := k) (by omega)
          obtain ⟨b, o, cs, ha, hlen, hcs, hR⟩ := hel (k) (by omega)
          obtain rfl : d = g.datums[k] := (List.getElem?_eq_some_iff.1 hx).2.symm
          generalize g.datums[k] = d at hx hd hR
          obtain ⟨rfl, hd1, hd2, hd3⟩ := hR
          refine skip ?_
          show Code.wp _ _ _ _ _
          refine seq ?_
          refine block ?_
          refine seq ?_
          refine region ?_
          refine sv (fa34_3 h1) ?_
          refine sv (yLdB rfl Try.isAgg31 (hS.at _) rfl) ?_
          refine sv (yMove h5) ?_
          refine sv (yIxa rfl ha rfl Try.runUnderlying31 Try.sizeOf78 (by omega) (by omega)) ?_
          refine sv (yLdA rfl Try.isAgg78 Try.sizeOf78 (hcs.ext hS.ext) rfl) ?_
          refine salloc hS Try.zeroValue78 rfl ?_; clear hS; intro b6 w hS
          refine sst hS rfl rfl Try.sizeOf78 rfl rfl rfl rfl ?_; clear hS; intro w hS
          refine nil ?_
          show Code.wp _ _ _ _ _
          refine seq ?_
          refine region ?_
          refine sv (fa78_0 rfl) ?_
          refine sv (yLdB rfl Try.isAgg3 (hS.at _) rfl) ?_
          refine scall Try.call67 (.cons rfl .nil) c_tick ?_
          rintro _ w ⟨rfl, hE⟩; replace hS := hS.step hE; clear hE
          refine sv (yMove rfl) ?_
          refine sg rfl rfl rfl (fun g => (fa78_1 rfl)) (fun v45 g45 => ?_)
          refine sg rfl rfl rfl (fun g => (fa38_0 (g45.1 g))) (fun v46 g46 => ?_)
          refine sg rfl rfl rfl (fun g => (yLdB (g46.1 g) Try.isAgg3 (hS.at _) rfl)) (fun v47 g47 => ?_)
          refine sg rfl rfl rfl (fun g => (fa78_1 rfl)) (fun v48 g48 => ?_)
          refine sg rfl rfl rfl (fun g => (fa38_1 (g48.1 g))) (fun v49 g49 => ?_)
          refine sg rfl rfl rfl (fun g => (yLdB (g49.1 g) Try.isAgg3 (hS.at _) rfl)) (fun v50 g50 => ?_)
          refine sgc hS rfl rfl rfl Try.call63 (fun g => (.cons (g47.1 g) (.cons rfl (.cons (g50.1 g) .nil)))) (fun g => c_in) ?_; clear hS; intro v51 w hS g51
          refine sv (yAnd rfl (fun hB => (g51.1 hB)) rfl) ?_
          refine sv (yMove rfl) ?_
          refine sg rfl rfl rfl (fun g => (fa78_1 rfl)) (fun v54 g54 => ?_)
          refine sg rfl rfl rfl (fun g => (fa38_1 (g54.1 g))) (fun v55 g55 => ?_)
          refine sg rfl rfl rfl (fun g => (yLdB (g55.1 g) Try.isAgg3 (hS.at _) rfl)) (fun v56 g56 => ?_)
          refine sg rfl rfl rfl (fun g => (yLeq (g56.1 g) rfl)) (fun v57 g57 => ?_)
          refine sv (yAnd rfl (fun hB => (g57.1 hB)) rfl) ?_
          refine sv (yAsg rfl) ?_
          refine nil ?_
          show Code.wp _ _ _ _ _
          refine seq ?_
          refine seq ?_
          refine region ?_
          refine sv (yMove h5) ?_
          refine sv (yEql rfl rfl) ?_
          refine nil ?_
          show Code.wp _ _ _ _ _
          refine cond rfl (fun c60 => ?_) (fun c60 => ?_)
          ·
            simp only [Bool.and_eq_true, Bool.or_eq_true, Bool.and_eq_false_iff, Bool.or_eq_false_iff, decide_eq_true_eq, decide_eq_false_iff_not, Bool.not_eq_true, Bool.not_eq_false, Bool.not_not, Bool.not_eq_eq_eq_not, Bool.not_true, Bool.not_false, Bool.false_eq_true, Bool.true_eq_false, ne_eq, Decidable.not_not, not_false_eq_true, not_true_eq_false] at c60
            obtain rfl : bef = -1 := by rcases hprev with h | ⟨p, h, _⟩; exact h.2; omega
            refine region ?_
            refine sv (yMove rfl) ?_
            refine sv (yMove rfl) ?_
            refine sg rfl rfl rfl (fun g => (fa78_0 rfl)) (fun v63 g63 => ?_)
            refine sg rfl rfl rfl (fun g => (yLdB (g63.1 g) Try.isAgg3 (hS.at _) rfl)) (fun v64 g64 => ?_)
            refine sg rfl rfl rfl (fun g => (yEql (g64.1 g) rfl)) (fun v65 g65 => ?_)
            refine sv (yAnd rfl (fun hB => (g65.1 hB)) rfl) ?_
            refine sv (yAsg rfl) ?_
            refine nil ?_
            show Code.wp _ _ _ _ _
            refine seq ?_
            refine region ?_
            refine sv (yMove rfl) ?_
            refine sv (yNot rfl) ?_
            refine nil ?_
            show Code.wp _ _ _ _ _
            refine cond rfl (fun c81 => ?_) (fun c81 => ?_)
            ·
              have hbad := (dat0_eq c60).symm.trans c81
              refine seq ?_
              refine region ?_
              refine sv (yMove h5) ?_
              refine sv (yAsg rfl) ?_
              refine sv (yAsg rfl) ?_
              refine sv (yAsg rfl) ?_
              refine nil ?_
              show Code.wp _ _ _ _ _
              have hfin : checkG g = (2, (k : Int), 7) := by rw [hI, hd, checkD, if_pos hbad]
              refine wp_ret (blockR (thenR (thenR (blockR (thenR ?_)))))
              exact retV (res3 rfl (fstI hfin) (thd1I hfin) (thd2I hfin)) hS.ext
            ·
              have hbad := (dat0_eq c60).symm.trans c81
              refine skip ?_
              show Code.wp _ _ _ _ _
              refine region ?_
              refine sv (yMove h5) ?_
              refine sv (yAdd rfl rfl ⟨by omega, by omega⟩) ?_
              refine sv (yAsg rfl) ?_
              refine nil ?_
              exact ⟨_, _, rfl, ⟨k + 1, d.start, h1, rfl, (hS.sub (.cons _ (List.Sublist.refl _))), (by omega), (by have := datBad_iff.1 hbad; omega), (.inr ⟨d, by omega, hx, rfl, by have := datBad_iff.1 hbad; omega⟩), (by rw [hI, hd, checkD, if_neg (by rw [hbad]; decide)]), rfl⟩, by omega⟩
          ·
            simp only [Bool.and_eq_true, Bool.or_eq_true, Bool.and_eq_false_iff, Bool.or_eq_false_iff, decide_eq_true_eq, decide_eq_false_iff_not, Bool.not_eq_true, Bool.not_eq_false, Bool.not_not, Bool.not_eq_eq_eq_not, Bool.not_true, Bool.not_false, Bool.false_eq_true, Bool.true_eq_false, ne_eq, Decidable.not_not, not_false_eq_true, not_true_eq_false] at c60
            obtain ⟨p, hk0, hp, rfl, hp0⟩ : ∃ p, 0 < k ∧ g.datums[k - 1]? = some p ∧ bef = p.start ∧ 0 ≤ bef := hprev.resolve_left (by omega)
            obtain ⟨b4, o4, cs4, ha4, hlen4, hcs4, hR4⟩ := hel (k - 1) (by omega)
            rw [(List.getElem?_eq_some_iff.1 hp).2] at hR4
            obtain ⟨rfl, _⟩ := hR4
            refine region_draw mixed (by kernel_rfl) hS ?_
            refine qv (fun w hS => (yMove rfl)) ?_
            refine qv (fun w hS => (yMove rfl)) ?_
            refine qg rfl rfl rfl (fun g w hS => (fa78_0 rfl)) (fun v69 g69 => ?_)
            refine qg rfl rfl rfl (fun g w hS => (yLdB (g69.1 g) Try.isAgg3 (hS.at _) rfl)) (fun v70 g70 => ?_)
            refine qg rfl rfl rfl (fun g w hS => (fa34_3 h1)) (fun v71 g71 => ?_)
            refine qg rfl rfl rfl (fun g w hS => (yLdB (g71.1 g) Try.isAgg31 (hS.at _) rfl)) (fun v72 g72 => ?_)
            refine qg rfl rfl rfl (fun g w hS => (yMove h5)) (fun v73 g73 => ?_)
            refine qg rfl rfl rfl (fun g w hS => (Y.to (ySub (g73.1 g) rfl ⟨by omega, by omega⟩) (show Value.int .i64 ((k : Int) - 1) = .int .i64 ((k - 1 : Nat) : Int) by congr 1; omega))) (fun v74 g74 => ?_)
            refine qg rfl rfl rfl (fun g w hS => (yIxa (g72.1 g) ha4 (g74.1 g) Try.runUnderlying31 Try.sizeOf78 (by omega) (by omega))) (fun v75 g75 => ?_)
            refine qg rfl rfl rfl (fun g w hS => (fa78_0 (g75.1 g))) (fun v76 g76 => ?_)
            refine qg rfl rfl rfl (fun g w hS => (yLd (g76.1 g) Try.isAgg3 ((hcs4.ext hS.ext).at (j := 0) rfl))) (fun v77 g77 => ?_)
            refine qg rfl rfl rfl (fun g w hS => (yGtr (g70.1 g) (g77.1 g))) (fun v78 g78 => ?_)
            refine qv (fun w hS => (yAnd rfl (fun hB => (g78.1 hB)) rfl)) ?_
            refine qv (fun w hS => (yAsg rfl)) ?_
            clear hS; refine qnil (fun w hS => ?_)
            show Code.wp _ _ _ _ _
            refine seq ?_
            refine region ?_
            refine sv (yMove rfl) ?_
            refine sv (yNot rfl) ?_
            refine nil ?_
            show Code.wp _ _ _ _ _
            refine cond rfl (fun c81 => ?_) (fun c81 => ?_)
            ·
              have hbad := (dat1_eq hp0 (show (k : Int) ≠ 0 by omega)).symm.trans c81
              refine seq ?_
              refine region ?_
              refine sv (yMove h5) ?_
              refine sv (yAsg rfl) ?_
              refine sv (yAsg rfl) ?_
              refine sv (yAsg rfl) ?_
              refine nil ?_
              show Code.wp _ _ _ _ _
              have hfin : checkG g = (2, (k : Int), 7) := by rw [hI, hd, checkD, if_pos hbad]
              refine wp_ret (blockR (thenR (thenR (blockR (thenR ?_)))))
              exact retV (res3 rfl (fstI hfin) (thd1I hfin) (thd2I hfin)) hS.ext
            ·
              have hbad := (dat1_eq hp0 (show (k : Int) ≠ 0 by omega)).symm.trans c81
              refine skip ?_
              show Code.wp _ _ _ _ _
              refine region ?_
              refine sv (yMove h5) ?_
              refine sv (yAdd rfl rfl ⟨by omega, by omega⟩) ?_
              refine sv (yAsg rfl) ?_
              refine nil ?_
              exact ⟨_, _, rfl, ⟨k + 1, d.start, h1, rfl, (hS.sub (.cons _ (List.Sublist.refl _))), (by omega), (by have := datBad_iff.1 hbad; omega), (.inr ⟨d, by omega, hx, rfl, by have := datBad_iff.1 hbad; omega⟩), (by rw [hI, hd, checkD, if_neg (by rw [hbad]; decide)]), rfl⟩, by omega⟩
        ·
          simp only [Bool.and_eq_true, Bool.or_eq_true, Bool.and_eq_false_iff, Bool.or_eq_false_iff, decide_eq_true_eq, decide_eq_false_iff_not, Bool.not_eq_true, Bool.not_eq_false, Bool.not_not, Bool.not_eq_eq_eq_not, Bool.not_true, Bool.not_false, Bool.false_eq_true, Bool.true_eq_false, ne_eq, Decidable.not_not, not_false_eq_true, not_true_eq_false] at c33
          obtain rfl : k = g.datums.length := by omega
          rw [List.drop_length, checkD] at hI
          unfold checkRs at hI
          refine exit ?_
          show Code.wp _ _ _ _ _
          refine seq ?_
          refine seq ?_
          refine region ?_
          refine sv (fa34_4 h1) ?_
          refine sv (yLdB rfl Try.isAgg32 (hS.at _) rfl) ?_
          refine sv (yLen rfl Try.underlying32) ?_
          refine sv (yGtr rfl rfl) ?_
          refine nil ?_
          show Code.wp _ _ _ _ _
          refine cond rfl (fun c86 => ?_) (fun c86 => ?_)
          ·
            simp only [Bool.and_eq_true, Bool.or_eq_true, Bool.and_eq_false_iff, Bool.or_eq_false_iff, decide_eq_true_eq, decide_eq_false_iff_not, Bool.not_eq_true, Bool.not_eq_false, Bool.not_not, Bool.not_eq_eq_eq_not, Bool.not_true, Bool.not_false, Bool.false_eq_true, Bool.true_eq_false, ne_eq, Decidable.not_not, not_false_eq_true, not_true_eq_false] at c86
            refine seq ?_
            refine region ?_
            refine sv (yAsg rfl) ?_
            refine sv (yAsg rfl) ?_
            refine sv (yAsg rfl) ?_
            refine nil ?_
            show Code.wp _ _ _ _ _
            have hfin : checkG g = (3, 0, 3) := by rw [hI, if_pos c86]
            refine wp_ret (thenR ?_)
            exact retV (res3 rfl (fstI hfin) (thd1I hfin) (thd2I hfin)) hS.ext
          ·
            simp only [Bool.and_eq_true, Bool.or_eq_true, Bool.and_eq_false_iff, Bool.or_eq_false_iff, decide_eq_true_eq, decide_eq_false_iff_not, Bool.not_eq_true, Bool.not_eq_false, Bool.not_not, Bool.not_eq_eq_eq_not, Bool.not_true, Bool.not_false, Bool.false_eq_true, Bool.true_eq_false, ne_eq, Decidable.not_not, not_false_eq_true, not_true_eq_false] at c86
            refine skip ?_
            show Code.wp _ _ _ _ _
            refine seq ?_
            refine seq ?_
            refine region ?_
            refine sv (yAsg rfl) ?_
            refine nil ?_
            show Code.wp _ _ _ _ _
            refine block ?_
            refine loop (fun f w zz => ∃ (k : Nat) (bef : Int), f 1 = .pointer (some ⟨b1, 0, none⟩) ∧ f 8 = .int .i64 (k : Int) ∧ StX [] w0 w [blk b1 [.string g.name, .int .i64 g.err, .int .i64 g.rate, .slice a g.datums.length cap, .slice a2 g.readings.length cap2] 34] ∧ (k ≤ g.readings.length) ∧ (Bd bef (-1) 200000) ∧ ((k = 0 ∧ bef = -1) ∨ ∃ p, 0 < k ∧ g.readings[k - 1]? = some p ∧ bef = p.tick ∧ 0 ≤ bef) ∧ (checkG g = checkR (g.readings.drop k) bef k) ∧ zz = g.readings.length - k) _ ⟨_, rfl, 0, -1, h1, rfl, hS, (Nat.zero_le _), (by omega), (.inl ⟨rfl, rfl⟩), (by rw [hI, if_neg (by omega)]; rfl), rfl⟩ ?_
            clear hS
            rintro f w _ ⟨k, bef, h1, h8, hS, hk, hb, hprev, hI, rfl⟩
            refine seq ?_
            refine seq ?_
            refine region ?_
            refine sv (yMove h8) ?_
            refine sv (fa34_4 h1) ?_
            refine sv (yLdB rfl Try.isAgg32 (hS.at _) rfl) ?_
            refine sv (yLen rfl Try.underlying32) ?_
            refine sv (yLss rfl rfl) ?_
            refine nil ?_
            show Code.wp _ _ _ _ _
            refine cond rfl (fun c91 => ?_) (fun c91 => ?_)
            ·
              simp only [Bool.and_eq_true, Bool.or_eq_true, Bool.and_eq_false_iff, Bool.or_eq_false_iff, decide_eq_true_eq, decide_eq_false_iff_not, Bool.not_eq_true, Bool.not_eq_false, Bool.not_not, Bool.not_eq_eq_eq_not, Bool.not_true, Bool.not_false, Bool.false_eq_true, Bool.true_eq_false, ne_eq, Decidable.not_not, not_false_eq_true, not_true_eq_false] at c91
              obtain ⟨r, hx, hd⟩ := drop_of (l := g.readings) (k := k) (by omega)
              obtain ⟨b, o, cs, ha, hlen, hcs, hR⟩ := hel2 (k) (by omega)
              obtain rfl : r = g.readings[k] := (List.getElem?_eq_some_iff.1 hx).2.symm
              generalize g.readings[k] = r at hx hd hR
              obtain ⟨rfl, hr1, hr2⟩ := hR
              obtain ⟨b4, o4, p4, hp4⟩ : ∃ b o p, 0 < k → a2 = some ⟨b, o, none⟩ ∧ Cells w0 b (o + (k - 1) * 2) (readC p) ∧ bef = p.tick ∧ 0 ≤ bef := by
                rcases hprev with h | ⟨p, hk0, hp, hbe, hp0⟩
                · exact ⟨0, 0, ⟨0, 0⟩, fun h0 => absurd h0 (by omega)⟩
                · obtain ⟨b4, o4, cs4, ha4, hlen4, hcs4, hR4⟩ := hel2 (k - 1) (by omega)
                  rw [(List.getElem?_eq_some_iff.1 hp).2] at hR4
                  obtain ⟨rfl, _⟩ := hR4
                  exact ⟨b4, o4, _, fun _ => ⟨ha4, hcs4, hbe, hp0⟩⟩
              refine skip ?_
              show Code.wp _ _ _ _ _
              refine seq ?_
              refine block ?_
              refine seq ?_
              refine region ?_
              refine sv (fa34_4 h1) ?_
              refine sv (yLdB rfl Try.isAgg32 (hS.at _) rfl) ?_
              refine sv (yMove h8) ?_
              refine sv (yIxa rfl ha rfl Try.runUnderlying32 Try.sizeOf103 (by omega) (by omega)) ?_
              refine sv (yLdA rfl Try.isAgg103 Try.sizeOf103 (hcs.ext hS.ext) rfl) ?_
              refine salloc hS Try.zeroValue103 rfl ?_; clear hS; intro b9 w hS
              refine sst hS rfl rfl Try.sizeOf103 rfl rfl rfl rfl ?_; clear hS; intro w hS
              refine nil ?_
              show Code.wp _ _ _ _ _
              refine seq ?_
              refine region_draw mixed (by kernel_rfl) hS ?_
              refine qv (fun w hS => (fa103_0 rfl)) ?_
              refine qv (fun w hS => (yLdB rfl Try.isAgg3 (hS.at _) rfl)) ?_
              refine qcall Try.call67 (.cons rfl .nil) (fun w hS => c_tick) ?_
              refine qv (fun w hS => (yNot rfl)) ?_
              refine qv (fun w hS => (yMove rfl)) ?_
              refine qg rfl rfl rfl (fun g w hS => (fa103_1 rfl)) (fun v104 g104 => ?_)
              refine qg rfl rfl rfl (fun g w hS => (yLdB (g104.1 g) Try.isAgg3 (hS.at _) rfl)) (fun v105 g105 => ?_)
              refine qgc rfl rfl rfl Try.call63 (fun g => (.cons (g105.1 g) (.cons rfl (.cons rfl .nil)))) (fun g w hS => c_in) (fun v106 g106 => ?_)
              refine qg rfl rfl rfl (fun g w hS => (yNot (g106.1 g))) (fun v107 g107 => ?_)
              refine qv (fun w hS => (yOr rfl rfl (fun hB => (g107.1 hB)))) ?_
              refine qv (fun w hS => (yMove rfl)) ?_
              refine qg rfl rfl rfl (fun g w hS => (yMove h8)) (fun v110 g110 => ?_)
              refine qg rfl rfl rfl (fun g w hS => (yGtr (g110.1 g) rfl)) (fun v111 g111 => ?_)
              refine qg rfl rfl rfl (fun g w hS => (yMove (g111.1 g))) (fun v112 g112 => ?_)
              refine qgg rfl rfl g112 (fun g w hS => (fa103_0 rfl)) (fun v113 g113 => ?_)
              refine qgg rfl rfl g112 (fun g w hS => (yLdB (g113.1 g) Try.isAgg3 (hS.at _) rfl)) (fun v114 g114 => ?_)
              refine qgg rfl rfl g112 (fun g w hS => (fa34_4 h1)) (fun v115 g115 => ?_)
              refine qgg rfl rfl g112 (fun g w hS => (yLdB (g115.1 g) Try.isAgg32 (hS.at _) rfl)) (fun v116 g116 => ?_)
              refine qgg rfl rfl g112 (fun g w hS => (yMove h8)) (fun v117 g117 => ?_)
              refine qgg rfl rfl g112 (fun g w hS => (Y.to (ySub (g117.1 g) rfl ⟨by omega, by omega⟩) (show Value.int .i64 ((k : Int) - 1) = .int .i64 ((k - 1 : Nat) : Int) by have := of_decide_eq_true g.2; congr 1; omega))) (fun v118 g118 => ?_)
              refine qgg rfl rfl g112 (fun g w hS => (yIxa (g116.1 g) (hp4 (by have := of_decide_eq_true g.2; omega)).1 (g118.1 g) Try.runUnderlying32 Try.sizeOf103 (by omega) (by omega))) (fun v119 g119 => ?_)
              refine qgg rfl rfl g112 (fun g w hS => (fa103_0 (g119.1 g))) (fun v120 g120 => ?_)
              refine qgg rfl rfl g112 (fun g w hS => (yLd (g120.1 g) Try.isAgg3 (((hp4 (by have := of_decide_eq_true g.2; omega)).2.1.ext hS.ext).at (j := 0) rfl))) (fun v121 g121 => ?_)
              refine qgg rfl rfl g112 (fun g w hS => (yLeq (g114.1 g) (g121.1 g))) (fun v122 g122 => ?_)
              refine qg rfl rfl rfl (fun g w hS => (yAnd (g112.1 g) (fun hB => (g122.1 ⟨g, hB⟩)) rfl)) (fun v123 g123 => ?_)
              refine qv (fun w hS => (yOr rfl rfl (fun hB => (g123.1 hB)))) ?_
              clear hS; refine qnil (fun w hS => ?_)
              show Code.wp _ _ _ _ _
              refine cond rfl (fun c124 => ?_) (fun c124 => ?_)
              ·
                have hbad := (read_eq (fun h => (hp4 h).2.2) hprev).symm.trans c124
                refine seq ?_
                refine region ?_
                refine sv (yMove h8) ?_
                refine sv (yAsg rfl) ?_
                refine sv (yAsg rfl) ?_
                refine sv (yAsg rfl) ?_
                refine nil ?_
                show Code.wp _ _ _ _ _
                have hfin : checkG g = (3, (k : Int), 7) := by rw [hI, hd, checkR, if_pos hbad]
                refine wp_ret (blockR (thenR (thenR (blockR (thenR ?_)))))
                exact retV (res3 rfl (fstI hfin) (thd1I hfin) (thd2I hfin)) hS.ext
              ·
                have hbad := (read_eq (fun h => (hp4 h).2.2) hprev).symm.trans c124
                refine skip ?_
                show Code.wp _ _ _ _ _
                refine region ?_
                refine sv (yMove h8) ?_
                refine sv (yAdd rfl rfl ⟨by omega, by omega⟩) ?_
                refine sv (yAsg rfl) ?_
                refine nil ?_
                exact ⟨_, _, rfl, ⟨k + 1, r.tick, h1, rfl, (hS.sub (.cons _ (List.Sublist.refl _))), (by omega), (by have := readBad_iff.1 hbad; omega), (.inr ⟨r, by omega, hx, rfl, by have := readBad_iff.1 hbad; omega⟩), (by rw [hI, hd, checkR, if_neg (by rw [hbad]; decide)]), rfl⟩, by omega⟩
            ·
              simp only [Bool.and_eq_true, Bool.or_eq_true, Bool.and_eq_false_iff, Bool.or_eq_false_iff, decide_eq_true_eq, decide_eq_false_iff_not, Bool.not_eq_true, Bool.not_eq_false, Bool.not_not, Bool.not_eq_eq_eq_not, Bool.not_true, Bool.not_false, Bool.false_eq_true, Bool.true_eq_false, ne_eq, Decidable.not_not, not_false_eq_true, not_true_eq_false] at c91
              obtain rfl : k = g.readings.length := by omega
              refine exit ?_
              show Code.wp _ _ _ _ _
              refine seq ?_
              refine region ?_
              refine sv (yAsg rfl) ?_
              refine sv (yAsg rfl) ?_
              refine sv (yAsg rfl) ?_
              refine nil ?_
              show Code.wp _ _ _ _ _
              have hfin : checkG g = (0, 0, 0) := by rw [hI, List.drop_length]; rfl
              refine wp_ret ?_
              exact retV (res3 rfl (fstI hfin) (thd1I hfin) (thd2I hfin)) hS.ext
end Go.Proofs.Ytpgmehignepidaa
/- part Wk7 -/
namespace Go.Proofs.Ytpgmehignepidaa
open Go Bx
/-- barrage/barrageref01.datum -/
theorem c_rdatum {g : Gauge} {r : Reading} {cs : List Value} {w0 : World} (hg : RGauge w0 cs g) (hok : GaugeOk g) (hr : 0 ≤ r.tick) : CV Try.prog 100 #[.agg cs.toArray, .agg (readC r).toArray] w0 (.int .i64 (datI g.datums r.tick : Nat)) := by
  obtain ⟨dv, rv, rfl, hnm, hge, hgr, hsd, hsr⟩ := id hg
  obtain ⟨a, cap, rfl, hcap, hmx, hel⟩ := id hsd
  obtain ⟨a2, cap2, rfl, hcap2, hmx2, hel2⟩ := id hsr
  have hc := cntD_pos hok.len.1 hok.first hr
  have hl8 := hok.len.2
  have hcl := cntD_le g.datums r.tick
  refine enter Try.func100 rfl Try.ntmps100 rfl ?_
  have hS := St.start w0
  refine seq ?_
  refine region ?_
  refine sbox hS rfl rfl ?_; clear hS; intro b2 w hS
  refine sbox hS rfl rfl ?_; clear hS; intro b3 w hS
  refine sv (yAsg rfl) ?_
  refine nil ?_
  show Code.wp _ _ _ _ _
  refine seq ?_
  refine region ?_
  refine sv (yAsg rfl) ?_
  refine nil ?_
  show Code.wp _ _ _ _ _
  refine seq ?_
  refine seq ?_
  refine region ?_
  refine sv (yAsg rfl) ?_
  refine nil ?_
  show Code.wp _ _ _ _ _
  refine block ?_
  refine loop (fun f w zz => ∃ (k out : Nat), f 2 = .pointer (some ⟨b2, 0, none⟩) ∧ f 3 = .pointer (some ⟨b3, 0, none⟩) ∧ f 5 = .int .i64 (out : Int) ∧ f 6 = .int .i64 (k : Int) ∧ StX [] w0 w [blk b3 (readC r) 103, blk b2 [.string g.name, .int .i64 g.err, .int .i64 g.rate, .slice a g.datums.length cap, .slice a2 g.readings.length cap2] 34] ∧ (k ≤ g.datums.length) ∧ (out = min k (cntD g.datums r.tick) - 1) ∧ zz = g.datums.length - k) _ ⟨_, rfl, 0, 0, rfl, rfl, rfl, rfl, hS, (Nat.zero_le _), (by omega), rfl⟩ ?_
  clear hS
  rintro f w _ ⟨k, out, h2, h3, h5, h6, hS, hk, ho, rfl⟩
  refine seq ?_
  refine seq ?_
  refine region ?_
  refine sv (yMove h6) ?_
  refine sv (fa34_3 h2) ?_
  refine sv (yLdB rfl Try.isAgg31 (hS.at _) rfl) ?_
  refine sv (yLen rfl Try.underlying31) ?_
  refine sv (yLss rfl rfl) ?_
  refine nil ?_
  show Code.wp _ _ _ _ _
  refine cond rfl (fun c11 => ?_) (fun c11 => ?_)
  ·
    simp only [Bool.and_eq_true, Bool.or_eq_true, Bool.and_eq_false_iff, Bool.or_eq_false_iff, decide_eq_true_eq, decide_eq_false_iff_not, Bool.not_eq_true, Bool.not_eq_false, Bool.not_not, Bool.not_eq_eq_eq_not, Bool.not_true, Bool.not_false, Bool.false_eq_true, Bool.true_eq_false, ne_eq, Decidable.not_not, not_false_eq_true, not_true_eq_false] at c11
    obtain ⟨d, hx, hd⟩ := drop_of (l := g.datums) (k := k) (by omega)
    obtain ⟨b, o, cs, ha, hlen, hcs, hR⟩ := hel (k) (by omega)
    obtain rfl : d = g.datums[k] := (List.getElem?_eq_some_iff.1 hx).2.symm
    generalize g.datums[k] = d at hx hd hR
    obtain ⟨rfl, hd1, hd2, hd3⟩ := hR
    refine skip ?_
    show Code.wp _ _ _ _ _
    refine seq ?_
    refine block ?_
    refine seq ?_
    refine region_draw mixed (by kernel_rfl) hS ?_
    refine qv (fun w hS => (fa34_3 h2)) ?_
    refine qv (fun w hS => (yLdB rfl Try.isAgg31 (hS.at _) rfl)) ?_
    refine qv (fun w hS => (yMove h6)) ?_
    refine qv (fun w hS => (yIxa rfl ha rfl Try.runUnderlying31 Try.sizeOf78 (by omega) (by omega))) ?_
    refine qv (fun w hS => (fa78_0 rfl)) ?_
    refine qv (fun w hS => (yLd rfl Try.isAgg3 ((hcs.ext hS.ext).at (j := 0) rfl))) ?_
    refine qv (fun w hS => (fa103_0 h3)) ?_
    refine qv (fun w hS => (yLdB rfl Try.isAgg3 (hS.at _) rfl)) ?_
    refine qv (fun w hS => (yLeq rfl rfl)) ?_
    clear hS; refine qnil (fun w hS => ?_)
    show Code.wp _ _ _ _ _
    refine cond rfl (fun c22 => ?_) (fun c22 => ?_)
    ·
      simp only [Bool.and_eq_true, Bool.or_eq_true, Bool.and_eq_false_iff, Bool.or_eq_false_iff, decide_eq_true_eq, decide_eq_false_iff_not, Bool.not_eq_true, Bool.not_eq_false, Bool.not_not, Bool.not_eq_eq_eq_not, Bool.not_true, Bool.not_false, Bool.false_eq_true, Bool.true_eq_false, ne_eq, Decidable.not_not, not_false_eq_true, not_true_eq_false] at c22
      have hlt : k < cntD g.datums r.tick := Nat.lt_of_not_le fun h => by have := cntD_ge g.datums r.tick k d hok.asc hx h; omega
      refine region ?_
      refine sv (yMove h6) ?_
      refine sv (yAsg rfl) ?_
      refine nil ?_
      show Code.wp _ _ _ _ _
      refine region ?_
      refine sv (yMove h6) ?_
      refine sv (yAdd rfl rfl ⟨by omega, by omega⟩) ?_
      refine sv (yAsg rfl) ?_
      refine nil ?_
      exact ⟨_, _, rfl, ⟨k + 1, k, h2, h3, rfl, rfl, hS, (by omega), (by omega), rfl⟩, by omega⟩
    ·
      simp only [Bool.and_eq_true, Bool.or_eq_true, Bool.and_eq_false_iff, Bool.or_eq_false_iff, decide_eq_true_eq, decide_eq_false_iff_not, Bool.not_eq_true, Bool.not_eq_false, Bool.not_not, Bool.not_eq_eq_eq_not, Bool.not_true, Bool.not_false, Bool.false_eq_true, Bool.true_eq_false, ne_eq, Decidable.not_not, not_false_eq_true, not_true_eq_false] at c22
      have hge2 : cntD g.datums r.tick ≤ k := Nat.le_of_not_lt fun h => by have := cntD_lt g.datums r.tick k d hx h; omega
      refine skip ?_
      show Code.wp _ _ _ _ _
      refine region ?_
      refine sv (yMove h6) ?_
      refine sv (yAdd rfl rfl ⟨by omega, by omega⟩) ?_
      refine sv (yAsg rfl) ?_
      refine nil ?_
      exact ⟨_, _, rfl, ⟨k + 1, out, h2, h3, h5, rfl, hS, (by omega), (by omega), rfl⟩, by omega⟩
  ·
    simp only [Bool.and_eq_true, Bool.or_eq_true, Bool.and_eq_false_iff, Bool.or_eq_false_iff, decide_eq_true_eq, decide_eq_false_iff_not, Bool.not_eq_true, Bool.not_eq_false, Bool.not_not, Bool.not_eq_eq_eq_not, Bool.not_true, Bool.not_false, Bool.false_eq_true, Bool.true_eq_false, ne_eq, Decidable.not_not, not_false_eq_true, not_true_eq_false] at c11
    obtain rfl : k = g.datums.length := by omega
    refine exit ?_
    show Code.wp _ _ _ _ _
    refine seq ?_
    refine region ?_
    refine sv (yMove h5) ?_
    refine sv (yAsg rfl) ?_
    refine nil ?_
    show Code.wp _ _ _ _ _
    refine wp_ret ?_
    exact retV (res1 rfl (eqI (by unfold datI; omega))) hS.ext
set_option maxHeartbeats 2000000 in
/-- barrage/barrageref01.says -/
theorem c_rsays {g : Gauge} {cs : List Value} {t now : Int} {w0 : World} (hg : RGauge w0 cs g) (hok : GaugeOk g) (ht : Bd t 0 200000) : CV Try.prog 70 #[.agg cs.toArray, .int .i64 t, .int .i64 now] w0 (.tuple #[.agg (spanC (saysG g t now).1).toArray, .int .i64 (saysG g t now).2]) := by
  obtain ⟨dv, rv, rfl, hnm, hge, hgr, hsd, hsr⟩ := id hg
  obtain ⟨a, cap, rfl, hcap, hmx, hel⟩ := id hsd
  obtain ⟨a2, cap2, rfl, hcap2, hmx2, hel2⟩ := id hsr
  have hrl := hok.rlen
  have hge := hok.err
  have hgr := hok.rate
  refine enter Try.func70 rfl Try.ntmps70 rfl ?_
  have hS := St.start w0
  refine seq ?_
  refine region ?_
  refine sbox hS rfl rfl ?_; clear hS; intro b3 w hS
  refine salloc hS Try.zeroValue38 rfl ?_; clear hS; intro b6 w hS
  refine sv (yAsg rfl) ?_
  refine nil ?_
  show Code.wp _ _ _ _ _
  refine seq ?_
  refine region ?_
  refine sv (yBuild Try.zeroValue38 rfl pl38 (.cons rfl rfl (.cons rfl rfl .nil)) rfl) ?_
  refine salloc hS Try.zeroValue38 rfl ?_; clear hS; intro b8 w hS
  refine sst hS rfl rfl Try.sizeOf38 rfl rfl rfl rfl ?_; clear hS; intro w hS
  refine nil ?_
  show Code.wp _ _ _ _ _
  refine seq ?_
  refine region ?_
  refine sv (yAsg rfl) ?_
  refine nil ?_
  show Code.wp _ _ _ _ _
  refine seq ?_
  refine seq ?_
  refine region ?_
  refine sv (yAsg rfl) ?_
  refine nil ?_
  show Code.wp _ _ _ _ _
  refine block ?_
  refine loop (fun f w zz => ∃ (k : Nat) (A : Bool), f 1 = .int .i64 t ∧ f 2 = .int .i64 now ∧ f 3 = .pointer (some ⟨b3, 0, none⟩) ∧ f 6 = .pointer (some ⟨b6, 0, none⟩) ∧ f 8 = .pointer (some ⟨b8, 0, none⟩) ∧ f 9 = .bool A ∧ f 10 = .int .i64 (k : Int) ∧ StX [] w0 w [blk b8 (spanC (cuts g t (known (g.readings.take k) now))) 38, blk b6 [.int .i64 0, .int .i64 0] 38, blk b3 [.string g.name, .int .i64 g.err, .int .i64 g.rate, .slice a g.datums.length cap, .slice a2 g.readings.length cap2] 34] ∧ (k ≤ g.readings.length) ∧ (A = decide (known (g.readings.take k) now ≠ [])) ∧ zz = g.readings.length - k) _ ⟨_, rfl, 0, false, rfl, rfl, rfl, rfl, rfl, rfl, rfl, hS, (Nat.zero_le _), (rfl), rfl⟩ ?_
  clear hS
  rintro f w _ ⟨k, A, h1, h2, h3, h6, h8, h9, h10, hS, hk, hA, rfl⟩
  refine seq ?_
  refine seq ?_
  refine region ?_
  refine sv (yMove h10) ?_
  refine sv (fa34_4 h3) ?_
  refine sv (yLdB rfl Try.isAgg32 (hS.at _) rfl) ?_
  refine sv (yLen rfl Try.underlying32) ?_
  refine sv (yLss rfl rfl) ?_
  refine nil ?_
  show Code.wp _ _ _ _ _
  refine cond rfl (fun c19 => ?_) (fun c19 => ?_)
  ·
    simp only [Bool.and_eq_true, Bool.or_eq_true, Bool.and_eq_false_iff, Bool.or_eq_false_iff, decide_eq_true_eq, decide_eq_false_iff_not, Bool.not_eq_true, Bool.not_eq_false, Bool.not_not, Bool.not_eq_eq_eq_not, Bool.not_true, Bool.not_false, Bool.false_eq_true, Bool.true_eq_false, ne_eq, Decidable.not_not, not_false_eq_true, not_true_eq_false] at c19
    obtain ⟨r, hx, hd⟩ := drop_of (l := g.readings) (k := k) (by omega)
    obtain ⟨b, o, cs, ha, hlen, hcs, hR⟩ := hel2 (k) (by omega)
    obtain rfl : r = g.readings[k] := (List.getElem?_eq_some_iff.1 hx).2.symm
    generalize g.readings[k] = r at hx hd hR
    obtain ⟨rfl, hr1, hr2⟩ := hR
    refine skip ?_
    show Code.wp _ _ _ _ _
    refine seq ?_
    refine block ?_
    refine seq ?_
    refine region ?_
    refine sv (fa34_4 h3) ?_
    refine sv (yLdB rfl Try.isAgg32 (hS.at _) rfl) ?_
    refine sv (yMove h10) ?_
    refine sv (yIxa rfl ha rfl Try.runUnderlying32 Try.sizeOf103 (by omega) (by omega)) ?_
    refine sv (yLdA rfl Try.isAgg103 Try.sizeOf103 (hcs.ext hS.ext) rfl) ?_
    refine salloc hS Try.zeroValue103 rfl ?_; clear hS; intro b11 w hS
    refine sst hS rfl rfl Try.sizeOf103 rfl rfl rfl rfl ?_; clear hS; intro w hS
    refine nil ?_
    show Code.wp _ _ _ _ _
    refine seq ?_
    refine seq ?_
    refine region ?_
    refine sv (fa103_0 rfl) ?_
    refine sv (yLdB rfl Try.isAgg3 (hS.at _) rfl) ?_
    refine sv (yMove h2) ?_
    refine sv (yGtr rfl rfl) ?_
    refine nil ?_
    show Code.wp _ _ _ _ _
    refine cond rfl (fun c30 => ?_) (fun c30 => ?_)
    ·
      simp only [Bool.and_eq_true, Bool.or_eq_true, Bool.and_eq_false_iff, Bool.or_eq_false_iff, decide_eq_true_eq, decide_eq_false_iff_not, Bool.not_eq_true, Bool.not_eq_false, Bool.not_not, Bool.not_eq_eq_eq_not, Bool.not_true, Bool.not_false, Bool.false_eq_true, Bool.true_eq_false, ne_eq, Decidable.not_not, not_false_eq_true, not_true_eq_false] at c30
      refine exit ?_
      show Code.wp _ _ _ _ _
      refine region ?_
      refine sv (yMove h10) ?_
      refine sv (yAdd rfl rfl ⟨by omega, by omega⟩) ?_
      refine sv (yAsg rfl) ?_
      refine nil ?_
      exact ⟨_, _, rfl, ⟨k + 1, A, h1, h2, h3, h6, h8, h9, rfl, (by rw [known_snoc_out hx c30]; exact hS.sub (.cons _ (List.Sublist.refl _))), (by omega), (by rw [known_snoc_out hx c30]; exact hA), rfl⟩, by omega⟩
    ·
      simp only [Bool.and_eq_true, Bool.or_eq_true, Bool.and_eq_false_iff, Bool.or_eq_false_iff, decide_eq_true_eq, decide_eq_false_iff_not, Bool.not_eq_true, Bool.not_eq_false, Bool.not_not, Bool.not_eq_eq_eq_not, Bool.not_true, Bool.not_false, Bool.false_eq_true, Bool.true_eq_false, ne_eq, Decidable.not_not, not_false_eq_true, not_true_eq_false] at c30
      have hro := hok.reads r (List.mem_of_getElem? hx)
      have hrt := hro.tick
      have hrv := hro.value
      have hfb := farR_bd hok ht hro
      have hmb : Bd (g.rate * max (t - r.tick) (r.tick - t)) 0 1000000000 := hfb
      obtain ⟨d, hxd, hds, hdok⟩ := datum_at hok hro.tick.1
      have hdl := datI_lt hok hro.tick.1
      obtain ⟨b1, o1, cs1, ha1, hlen1, hcs1, hR1⟩ := hel _ hdl
      obtain rfl : d = g.datums[datI g.datums r.tick] := (List.getElem?_eq_some_iff.1 hxd).2.symm
      generalize g.datums[datI g.datums r.tick] = d at hR1 hds hdok
      obtain ⟨rfl, _⟩ := hR1
      have hdb := hdok.shift
      refine skip ?_
      show Code.wp _ _ _ _ _
      refine seq ?_
      refine region ?_
      refine sv (yAsg rfl) ?_
      refine nil ?_
      show Code.wp _ _ _ _ _
      refine seq ?_
      refine region_any (C := (fun w => StX [] w0 w [blk b11 (readC r) 103, blk b8 (spanC (cuts g t (known (g.readings.take k) now))) 38, blk b6 [.int .i64 0, .int .i64 0] 38, blk b3 [.string g.name, .int .i64 g.err, .int .i64 g.rate, .slice a g.datums.length cap, .slice a2 g.readings.length cap2] 34])) mixed 4 9 (by kernel_rfl) (fun c a a' w h => by obtain ⟨_, v, hv, _⟩ := h; cases hv) hS (fun _ h => h) ?_
      clear hS; intro w hS
      refine hv (fun w hS => (fa34_3 h3)) ?_
      refine hv (fun w hS => (yLdB rfl Try.isAgg31 (hS.at _) rfl)) ?_
      refine hv (fun w hS => (yLdBA h3 Try.isAgg34 Try.sizeOf34 (hS.at _) rfl rfl)) ?_
      refine hv (fun w hS => (yLdBA rfl Try.isAgg103 Try.sizeOf103 (hS.at _) rfl rfl)) ?_
      refine hnil ?_
      show wpA _ _ _ _ _ _ _ _ _ _
      refine a_step (i := 4) (is := [8]) (by kernel_rfl) ⟨?_, ?_, trivial⟩
      ·
        refine ⟨_, rfl, ?_⟩
        refine scall Try.call100 (.cons rfl (.cons rfl .nil)) (c_rdatum (r := r) (hg.ext hS.ext) hok hro.tick.1) ?_
        rintro _ w ⟨rfl, hE⟩; replace hS := hS.step hE; clear hE
        refine nil ?_
        refine ⟨fun _ => hS.sub (List.Sublist.refl _), ?_⟩
        show wpA _ _ _ _ _ _ _ _ _ _
        refine a_step (i := 5) (is := [8]) (by kernel_rfl) ⟨?_, ?_, trivial⟩
        ·
          refine ⟨_, rfl, ?_⟩
          refine sv (yIxa rfl ha1 rfl Try.runUnderlying31 Try.sizeOf78 (by omega) (by omega)) ?_
          refine nil ?_
          refine ⟨fun _ => hS.sub (List.Sublist.refl _), ?_⟩
          show wpA _ _ _ _ _ _ _ _ _ _
          refine a_step (i := 6) (is := [8]) (by kernel_rfl) ⟨?_, ?_, trivial⟩
          ·
            refine ⟨_, rfl, ?_⟩
            refine sv (fa78_1 rfl) ?_
            refine nil ?_
            refine ⟨fun _ => hS.sub (List.Sublist.refl _), ?_⟩
            show wpA _ _ _ _ _ _ _ _ _ _
            refine a_step (i := 7) (is := [8]) (by kernel_rfl) ⟨?_, ?_, trivial⟩
            ·
              refine ⟨_, rfl, ?_⟩
              refine sv (yLdA rfl Try.isAgg38 Try.sizeOf38 ((hcs1.mid (xs := spanC d.shift) 1 rfl).ext hS.ext) rfl) ?_
              refine nil ?_
              refine ⟨fun _ => hS.sub (List.Sublist.refl _), ?_⟩
              show wpA _ _ _ _ _ _ _ _ _ _
              refine a_step (i := 8) (is := []) (by kernel_rfl) ⟨?_, trivial⟩
              refine ⟨_, rfl, ?_⟩
              refine salloc hS Try.zeroValue38 rfl ?_; clear hS; intro b12 w hS
              refine nil ?_
              refine ⟨fun _ => hS.sub (.cons _ (List.Sublist.refl _)), ?_⟩
              show wpA _ _ _ _ _ _ _ _ _ _
              refine a_step (i := 9) (is := []) (by kernel_rfl) ⟨?_, trivial⟩
              refine ⟨_, rfl, ?_⟩
              refine sst hS rfl rfl Try.sizeOf38 rfl rfl rfl rfl ?_; clear hS; intro w hS
              refine nil ?_
              refine ⟨fun h => absurd h (by decide), ?_⟩
              show wpA _ _ _ _ _ _ _ _ _ _
              refine a_end (by kernel_rfl) ?_
              show Code.wp _ _ _ _ _
              refine seq ?_
              refine region ?_
              refine sv (fa34_2 h3) ?_
              refine sv (yLdB rfl Try.isAgg3 (hS.at _) rfl) ?_
              refine sv (yMove h1) ?_
              refine sv (fa103_0 rfl) ?_
              refine sv (yLdB rfl Try.isAgg3 (hS.at _) rfl) ?_
              refine sv (ySub rfl rfl ⟨by omega, by omega⟩) ?_
              refine sv (fa103_0 rfl) ?_
              refine sv (yLdB rfl Try.isAgg3 (hS.at _) rfl) ?_
              refine sv (yMove h1) ?_
              refine sv (ySub rfl rfl ⟨by omega, by omega⟩) ?_
              refine sv (yMax rfl rfl) ?_
              refine sv (yMul rfl rfl ⟨by omega, by omega⟩) ?_
              refine sv (yAsg rfl) ?_
              refine nil ?_
              show Code.wp _ _ _ _ _
              refine seq ?_
              refine region ?_
              refine sv (fa38_0 h8) ?_
              refine sv (yLdB rfl Try.isAgg3 (hS.at _) rfl) ?_
              refine sv (fa103_1 rfl) ?_
              refine sv (yLdB rfl Try.isAgg3 (hS.at _) rfl) ?_
              refine sv (fa34_1 h3) ?_
              refine sv (yLdB rfl Try.isAgg3 (hS.at _) rfl) ?_
              refine sv (ySub rfl rfl ⟨by omega, by omega⟩) ?_
              refine sv (fa38_1 rfl) ?_
              refine sv (yLdB rfl Try.isAgg3 (hS.at _) rfl) ?_
              refine sv (ySub rfl rfl ⟨by omega, by omega⟩) ?_
              refine sv (yMove rfl) ?_
              refine sv (Y.to (ySub rfl rfl ⟨by omega, by omega⟩) (congrArg _ (read_lo hds))) ?_
              refine sv (yMax rfl rfl) ?_
              refine sv (fa38_0 h8) ?_
              refine sst hS rfl rfl Try.sizeOf3 rfl rfl rfl rfl ?_; clear hS; intro w hS
              refine nil ?_
              show Code.wp _ _ _ _ _
              refine region ?_
              refine sv (fa38_1 h8) ?_
              refine sv (yLdB rfl Try.isAgg3 (hS.at _) rfl) ?_
              refine sv (fa103_1 rfl) ?_
              refine sv (yLdB rfl Try.isAgg3 (hS.at _) rfl) ?_
              refine sv (fa34_1 h3) ?_
              refine sv (yLdB rfl Try.isAgg3 (hS.at _) rfl) ?_
              refine sv (yAdd rfl rfl ⟨by omega, by omega⟩) ?_
              refine sv (fa38_0 rfl) ?_
              refine sv (yLdB rfl Try.isAgg3 (hS.at _) rfl) ?_
              refine sv (ySub rfl rfl ⟨by omega, by omega⟩) ?_
              refine sv (yMove rfl) ?_
              refine sv (Y.to (yAdd rfl rfl ⟨by omega, by omega⟩) (congrArg _ (read_hi hds))) ?_
              refine sv (yMin rfl rfl) ?_
              refine sv (fa38_1 h8) ?_
              refine sst hS rfl rfl Try.sizeOf3 rfl rfl rfl rfl ?_; clear hS; intro w hS
              refine nil ?_
              show Code.wp _ _ _ _ _
              refine region ?_
              refine sv (yMove h10) ?_
              refine sv (yAdd rfl rfl ⟨by omega, by omega⟩) ?_
              refine sv (yAsg rfl) ?_
              refine nil ?_
              exact ⟨_, _, rfl, ⟨k + 1, true, h1, h2, h3, h6, h8, rfl, rfl, (by rw [known_snoc_in hx (by omega), cuts_snoc]; exact hS.sub (.cons _ (.cons _ (List.Sublist.refl _)))), (by omega), (by rw [known_snoc_in hx (by omega)]; simp), rfl⟩, by omega⟩
            ·
              refine ⟨_, rfl, ?_⟩
              refine salloc hS Try.zeroValue38 rfl ?_; clear hS; intro b12 w hS
              refine nil ?_
              refine ⟨fun _ => hS.sub (.cons _ (List.Sublist.refl _)), ?_⟩
              show wpA _ _ _ _ _ _ _ _ _ _
              refine a_step (i := 7) (is := []) (by kernel_rfl) ⟨?_, trivial⟩
              refine ⟨_, rfl, ?_⟩
              refine sv (yLdA rfl Try.isAgg38 Try.sizeOf38 ((hcs1.mid (xs := spanC d.shift) 1 rfl).ext hS.ext) rfl) ?_
              refine nil ?_
              refine ⟨fun _ => hS.sub (.cons _ (List.Sublist.refl _)), ?_⟩
              show wpA _ _ _ _ _ _ _ _ _ _
              refine a_step (i := 9) (is := []) (by kernel_rfl) ⟨?_, trivial⟩
              refine ⟨_, rfl, ?_⟩
              refine sst hS rfl rfl Try.sizeOf38 rfl rfl rfl rfl ?_; clear hS; intro w hS
              refine nil ?_
              refine ⟨fun h => absurd h (by decide), ?_⟩
              show wpA _ _ _ _ _ _ _ _ _ _
              refine a_end (by kernel_rfl) ?_
              show Code.wp _ _ _ _ _
              refine seq ?_
              refine region ?_
              refine sv (fa34_2 h3) ?_
              refine sv (yLdB rfl Try.isAgg3 (hS.at _) rfl) ?_
              refine sv (yMove h1) ?_
              refine sv (fa103_0 rfl) ?_
              refine sv (yLdB rfl Try.isAgg3 (hS.at _) rfl) ?_
              refine sv (ySub rfl rfl ⟨by omega, by omega⟩) ?_
              refine sv (fa103_0 rfl) ?_
              refine sv (yLdB rfl Try.isAgg3 (hS.at _) rfl) ?_
              refine sv (yMove h1) ?_
              refine sv (ySub rfl rfl ⟨by omega, by omega⟩) ?_
              refine sv (yMax rfl rfl) ?_
              refine sv (yMul rfl rfl ⟨by omega, by omega⟩) ?_
              refine sv (yAsg rfl) ?_
              refine nil ?_
              show Code.wp _ _ _ _ _
              refine seq ?_
              refine region ?_
              refine sv (fa38_0 h8) ?_
              refine sv (yLdB rfl Try.isAgg3 (hS.at _) rfl) ?_
              refine sv (fa103_1 rfl) ?_
              refine sv (yLdB rfl Try.isAgg3 (hS.at _) rfl) ?_
              refine sv (fa34_1 h3) ?_
              refine sv (yLdB rfl Try.isAgg3 (hS.at _) rfl) ?_
              refine sv (ySub rfl rfl ⟨by omega, by omega⟩) ?_
              refine sv (fa38_1 rfl) ?_
              refine sv (yLdB rfl Try.isAgg3 (hS.at _) rfl) ?_
              refine sv (ySub rfl rfl ⟨by omega, by omega⟩) ?_
              refine sv (yMove rfl) ?_
              refine sv (Y.to (ySub rfl rfl ⟨by omega, by omega⟩) (congrArg _ (read_lo hds))) ?_
              refine sv (yMax rfl rfl) ?_
              refine sv (fa38_0 h8) ?_
              refine sst hS rfl rfl Try.sizeOf3 rfl rfl rfl rfl ?_; clear hS; intro w hS
              refine nil ?_
              show Code.wp _ _ _ _ _
              refine region ?_
              refine sv (fa38_1 h8) ?_
              refine sv (yLdB rfl Try.isAgg3 (hS.at _) rfl) ?_
              refine sv (fa103_1 rfl) ?_
              refine sv (yLdB rfl Try.isAgg3 (hS.at _) rfl) ?_
              refine sv (fa34_1 h3) ?_
              refine sv (yLdB rfl Try.isAgg3 (hS.at _) rfl) ?_
              refine sv (yAdd rfl rfl ⟨by omega, by omega⟩) ?_
              refine sv (fa38_0 rfl) ?_
              refine sv (yLdB rfl Try.isAgg3 (hS.at _) rfl) ?_
              refine sv (ySub rfl rfl ⟨by omega, by omega⟩) ?_
              refine sv (yMove rfl) ?_
              refine sv (Y.to (yAdd rfl rfl ⟨by omega, by omega⟩) (congrArg _ (read_hi hds))) ?_
              refine sv (yMin rfl rfl) ?_
              refine sv (fa38_1 h8) ?_
              refine sst hS rfl rfl Try.sizeOf3 rfl rfl rfl rfl ?_; clear hS; intro w hS
              refine nil ?_
              show Code.wp _ _ _ _ _
              refine region ?_
              refine sv (yMove h10) ?_
              refine sv (yAdd rfl rfl ⟨by omega, by omega⟩) ?_
              refine sv (yAsg rfl) ?_
              refine nil ?_
              exact ⟨_, _, rfl, ⟨k + 1, true, h1, h2, h3, h6, h8, rfl, rfl, (by rw [known_snoc_in hx (by omega), cuts_snoc]; exact hS.sub (.cons _ (.cons _ (List.Sublist.refl _)))), (by omega), (by rw [known_snoc_in hx (by omega)]; simp), rfl⟩, by omega⟩
          ·
            refine ⟨_, rfl, ?_⟩
            refine salloc hS Try.zeroValue38 rfl ?_; clear hS; intro b12 w hS
            refine nil ?_
            refine ⟨fun _ => hS.sub (.cons _ (List.Sublist.refl _)), ?_⟩
            show wpA _ _ _ _ _ _ _ _ _ _
            refine a_step (i := 6) (is := []) (by kernel_rfl) ⟨?_, trivial⟩
            refine ⟨_, rfl, ?_⟩
            refine sv (fa78_1 rfl) ?_
            refine nil ?_
            refine ⟨fun _ => hS.sub (.cons _ (List.Sublist.refl _)), ?_⟩
            show wpA _ _ _ _ _ _ _ _ _ _
            refine a_step (i := 7) (is := []) (by kernel_rfl) ⟨?_, trivial⟩
            refine ⟨_, rfl, ?_⟩
            refine sv (yLdA rfl Try.isAgg38 Try.sizeOf38 ((hcs1.mid (xs := spanC d.shift) 1 rfl).ext hS.ext) rfl) ?_
            refine nil ?_
            refine ⟨fun _ => hS.sub (.cons _ (List.Sublist.refl _)), ?_⟩
            show wpA _ _ _ _ _ _ _ _ _ _
            refine a_step (i := 9) (is := []) (by kernel_rfl) ⟨?_, trivial⟩
            refine ⟨_, rfl, ?_⟩
            refine sst hS rfl rfl Try.sizeOf38 rfl rfl rfl rfl ?_; clear hS; intro w hS
            refine nil ?_
            refine ⟨fun h => absurd h (by decide), ?_⟩
            show wpA _ _ _ _ _ _ _ _ _ _
            refine a_end (by kernel_rfl) ?_
            show Code.wp _ _ _ _ _
            refine seq ?_
            refine region ?_
            refine sv (fa34_2 h3) ?_
            refine sv (yLdB rfl Try.isAgg3 (hS.at _) rfl) ?_
            refine sv (yMove h1) ?_
            refine sv (fa103_0 rfl) ?_
            refine sv (yLdB rfl Try.isAgg3 (hS.at _) rfl) ?_
            refine sv (ySub rfl rfl ⟨by omega, by omega⟩) ?_
            refine sv (fa103_0 rfl) ?_
            refine sv (yLdB rfl Try.isAgg3 (hS.at _) rfl) ?_
            refine sv (yMove h1) ?_
            refine sv (ySub rfl rfl ⟨by omega, by omega⟩) ?_
            refine sv (yMax rfl rfl) ?_
            refine sv (yMul rfl rfl ⟨by omega, by omega⟩) ?_
            refine sv (yAsg rfl) ?_
            refine nil ?_
            show Code.wp _ _ _ _ _
            refine seq ?_
            refine region ?_
            refine sv (fa38_0 h8) ?_
            refine sv (yLdB rfl Try.isAgg3 (hS.at _) rfl) ?_
            refine sv (fa103_1 rfl) ?_
            refine sv (yLdB rfl Try.isAgg3 (hS.at _) rfl) ?_
            refine sv (fa34_1 h3) ?_
            refine sv (yLdB rfl Try.isAgg3 (hS.at _) rfl) ?_
            refine sv (ySub rfl rfl ⟨by omega, by omega⟩) ?_
            refine sv (fa38_1 rfl) ?_
            refine sv (yLdB rfl Try.isAgg3 (hS.at _) rfl) ?_
            refine sv (ySub rfl rfl ⟨by omega, by omega⟩) ?_
            refine sv (yMove rfl) ?_
            refine sv (Y.to (ySub rfl rfl ⟨by omega, by omega⟩) (congrArg _ (read_lo hds))) ?_
            refine sv (yMax rfl rfl) ?_
            refine sv (fa38_0 h8) ?_
            refine sst hS rfl rfl Try.sizeOf3 rfl rfl rfl rfl ?_; clear hS; intro w hS
            refine nil ?_
            show Code.wp _ _ _ _ _
            refine region ?_
            refine sv (fa38_1 h8) ?_
            refine sv (yLdB rfl Try.isAgg3 (hS.at _) rfl) ?_
            refine sv (fa103_1 rfl) ?_
            refine sv (yLdB rfl Try.isAgg3 (hS.at _) rfl) ?_
            refine sv (fa34_1 h3) ?_
            refine sv (yLdB rfl Try.isAgg3 (hS.at _) rfl) ?_
            refine sv (yAdd rfl rfl ⟨by omega, by omega⟩) ?_
            refine sv (fa38_0 rfl) ?_
            refine sv (yLdB rfl Try.isAgg3 (hS.at _) rfl) ?_
            refine sv (ySub rfl rfl ⟨by omega, by omega⟩) ?_
            refine sv (yMove rfl) ?_
            refine sv (Y.to (yAdd rfl rfl ⟨by omega, by omega⟩) (congrArg _ (read_hi hds))) ?_
            refine sv (yMin rfl rfl) ?_
            refine sv (fa38_1 h8) ?_
            refine sst hS rfl rfl Try.sizeOf3 rfl rfl rfl rfl ?_; clear hS; intro w hS
            refine nil ?_
            show Code.wp _ _ _ _ _
            refine region ?_
            refine sv (yMove h10) ?_
            refine sv (yAdd rfl rfl ⟨by omega, by omega⟩) ?_
            refine sv (yAsg rfl) ?_
            refine nil ?_
            exact ⟨_, _, rfl, ⟨k + 1, true, h1, h2, h3, h6, h8, rfl, rfl, (by rw [known_snoc_in hx (by omega), cuts_snoc]; exact hS.sub (.cons _ (.cons _ (List.Sublist.refl _)))), (by omega), (by rw [known_snoc_in hx (by omega)]; simp), rfl⟩, by omega⟩
        ·
          refine ⟨_, rfl, ?_⟩
          refine salloc hS Try.zeroValue38 rfl ?_; clear hS; intro b12 w hS
          refine nil ?_
          refine ⟨fun _ => hS.sub (.cons _ (List.Sublist.refl _)), ?_⟩
          show wpA _ _ _ _ _ _ _ _ _ _
          refine a_step (i := 5) (is := []) (by kernel_rfl) ⟨?_, trivial⟩
          refine ⟨_, rfl, ?_⟩
          refine sv (yIxa rfl ha1 rfl Try.runUnderlying31 Try.sizeOf78 (by omega) (by omega)) ?_
          refine nil ?_
          refine ⟨fun _ => hS.sub (.cons _ (List.Sublist.refl _)), ?_⟩
          show wpA _ _ _ _ _ _ _ _ _ _
          refine a_step (i := 6) (is := []) (by kernel_rfl) ⟨?_, trivial⟩
          refine ⟨_, rfl, ?_⟩
          refine sv (fa78_1 rfl) ?_
          refine nil ?_
          refine ⟨fun _ => hS.sub (.cons _ (List.Sublist.refl _)), ?_⟩
          show wpA _ _ _ _ _ _ _ _ _ _
          refine a_step (i := 7) (is := []) (by kernel_rfl) ⟨?_, trivial⟩
          refine ⟨_, rfl, ?_⟩
          refine sv (yLdA rfl Try.isAgg38 Try.sizeOf38 ((hcs1.mid (xs := spanC d.shift) 1 rfl).ext hS.ext) rfl) ?_
          refine nil ?_
          refine ⟨fun _ => hS.sub (.cons _ (List.Sublist.refl _)), ?_⟩
          show wpA _ _ _ _ _ _ _ _ _ _
          refine a_step (i := 9) (is := []) (by kernel_rfl) ⟨?_, trivial⟩
          refine ⟨_, rfl, ?_⟩
          refine sst hS rfl rfl Try.sizeOf38 rfl rfl rfl rfl ?_; clear hS; intro w hS
          refine nil ?_
          refine ⟨fun h => absurd h (by decide), ?_⟩
          show wpA _ _ _ _ _ _ _ _ _ _
          refine a_end (by kernel_rfl) ?_
          show Code.wp _ _ _ _ _
          refine seq ?_
          refine region ?_
          refine sv (fa34_2 h3) ?_
          refine sv (yLdB rfl Try.isAgg3 (hS.at _) rfl) ?_
          refine sv (yMove h1) ?_
          refine sv (fa103_0 rfl) ?_
          refine sv (yLdB rfl Try.isAgg3 (hS.at _) rfl) ?_
          refine sv (ySub rfl rfl ⟨by omega, by omega⟩) ?_
          refine sv (fa103_0 rfl) ?_
          refine sv (yLdB rfl Try.isAgg3 (hS.at _) rfl) ?_
          refine sv (yMove h1) ?_
          refine sv (ySub rfl rfl ⟨by omega, by omega⟩) ?_
          refine sv (yMax rfl rfl) ?_
          refine sv (yMul rfl rfl ⟨by omega, by omega⟩) ?_
          refine sv (yAsg rfl) ?_
          refine nil ?_
          show Code.wp _ _ _ _ _
          refine seq ?_
          refine region ?_
          refine sv (fa38_0 h8) ?_
          refine sv (yLdB rfl Try.isAgg3 (hS.at _) rfl) ?_
          refine sv (fa103_1 rfl) ?_
          refine sv (yLdB rfl Try.isAgg3 (hS.at _) rfl) ?_
          refine sv (fa34_1 h3) ?_
          refine sv (yLdB rfl Try.isAgg3 (hS.at _) rfl) ?_
          refine sv (ySub rfl rfl ⟨by omega, by omega⟩) ?_
          refine sv (fa38_1 rfl) ?_
          refine sv (yLdB rfl Try.isAgg3 (hS.at _) rfl) ?_
          refine sv (ySub rfl rfl ⟨by omega, by omega⟩) ?_
          refine sv (yMove rfl) ?_
          refine sv (Y.to (ySub rfl rfl ⟨by omega, by omega⟩) (congrArg _ (read_lo hds))) ?_
          refine sv (yMax rfl rfl) ?_
          refine sv (fa38_0 h8) ?_
          refine sst hS rfl rfl Try.sizeOf3 rfl rfl rfl rfl ?_; clear hS; intro w hS
          refine nil ?_
          show Code.wp _ _ _ _ _
          refine region ?_
          refine sv (fa38_1 h8) ?_
          refine sv (yLdB rfl Try.isAgg3 (hS.at _) rfl) ?_
          refine sv (fa103_1 rfl) ?_
          refine sv (yLdB rfl Try.isAgg3 (hS.at _) rfl) ?_
          refine sv (fa34_1 h3) ?_
          refine sv (yLdB rfl Try.isAgg3 (hS.at _) rfl) ?_
          refine sv (yAdd rfl rfl ⟨by omega, by omega⟩) ?_
          refine sv (fa38_0 rfl) ?_
          refine sv (yLdB rfl Try.isAgg3 (hS.at _) rfl) ?_
          refine sv (ySub rfl rfl ⟨by omega, by omega⟩) ?_
          refine sv (yMove rfl) ?_
          refine sv (Y.to (yAdd rfl rfl ⟨by omega, by omega⟩) (congrArg _ (read_hi hds))) ?_
          refine sv (yMin rfl rfl) ?_
          refine sv (fa38_1 h8) ?_
          refine sst hS rfl rfl Try.sizeOf3 rfl rfl rfl rfl ?_; clear hS; intro w hS
          refine nil ?_
          show Code.wp _ _ _ _ _
          refine region ?_
          refine sv (yMove h10) ?_
          refine sv (yAdd rfl rfl ⟨by omega, by omega⟩) ?_
          refine sv (yAsg rfl) ?_
          refine nil ?_
          exact ⟨_, _, rfl, ⟨k + 1, true, h1, h2, h3, h6, h8, rfl, rfl, (by rw [known_snoc_in hx (by omega), cuts_snoc]; exact hS.sub (.cons _ (.cons _ (List.Sublist.refl _)))), (by omega), (by rw [known_snoc_in hx (by omega)]; simp), rfl⟩, by omega⟩
      ·
        refine ⟨_, rfl, ?_⟩
        refine salloc hS Try.zeroValue38 rfl ?_; clear hS; intro b12 w hS
        refine nil ?_
        refine ⟨fun _ => hS.sub (.cons _ (List.Sublist.refl _)), ?_⟩
        show wpA _ _ _ _ _ _ _ _ _ _
        refine a_step (i := 4) (is := []) (by kernel_rfl) ⟨?_, trivial⟩
        refine ⟨_, rfl, ?_⟩
        refine scall Try.call100 (.cons rfl (.cons rfl .nil)) (c_rdatum (r := r) (hg.ext hS.ext) hok hro.tick.1) ?_
        rintro _ w ⟨rfl, hE⟩; replace hS := hS.step hE; clear hE
        refine nil ?_
        refine ⟨fun _ => hS.sub (.cons _ (List.Sublist.refl _)), ?_⟩
        show wpA _ _ _ _ _ _ _ _ _ _
        refine a_step (i := 5) (is := []) (by kernel_rfl) ⟨?_, trivial⟩
        refine ⟨_, rfl, ?_⟩
        refine sv (yIxa rfl ha1 rfl Try.runUnderlying31 Try.sizeOf78 (by omega) (by omega)) ?_
        refine nil ?_
        refine ⟨fun _ => hS.sub (.cons _ (List.Sublist.refl _)), ?_⟩
        show wpA _ _ _ _ _ _ _ _ _ _
        refine a_step (i := 6) (is := []) (by kernel_rfl) ⟨?_, trivial⟩
        refine ⟨_, rfl, ?_⟩
        refine sv (fa78_1 rfl) ?_
        refine nil ?_
        refine ⟨fun _ => hS.sub (.cons _ (List.Sublist.refl _)), ?_⟩
        show wpA _ _ _ _ _ _ _ _ _ _
        refine a_step (i := 7) (is := []) (by kernel_rfl) ⟨?_, trivial⟩
        refine ⟨_, rfl, ?_⟩
        refine sv (yLdA rfl Try.isAgg38 Try.sizeOf38 ((hcs1.mid (xs := spanC d.shift) 1 rfl).ext hS.ext) rfl) ?_
        refine nil ?_
        refine ⟨fun _ => hS.sub (.cons _ (List.Sublist.refl _)), ?_⟩
        show wpA _ _ _ _ _ _ _ _ _ _
        refine a_step (i := 9) (is := []) (by kernel_rfl) ⟨?_, trivial⟩
        refine ⟨_, rfl, ?_⟩
        refine sst hS rfl rfl Try.sizeOf38 rfl rfl rfl rfl ?_; clear hS; intro w hS
        refine nil ?_
        refine ⟨fun h => absurd h (by decide), ?_⟩
        show wpA _ _ _ _ _ _ _ _ _ _
        refine a_end (by kernel_rfl) ?_
        show Code.wp _ _ _ _ _
        refine seq ?_
        refine region ?_
        refine sv (fa34_2 h3) ?_
        refine sv (yLdB rfl Try.isAgg3 (hS.at _) rfl) ?_
        refine sv (yMove h1) ?_
        refine sv (fa103_0 rfl) ?_
        refine sv (yLdB rfl Try.isAgg3 (hS.at _) rfl) ?_
        refine sv (ySub rfl rfl ⟨by omega, by omega⟩) ?_
        refine sv (fa103_0 rfl) ?_
        refine sv (yLdB rfl Try.isAgg3 (hS.at _) rfl) ?_
        refine sv (yMove h1) ?_
        refine sv (ySub rfl rfl ⟨by omega, by omega⟩) ?_
        refine sv (yMax rfl rfl) ?_
        refine sv (yMul rfl rfl ⟨by omega, by omega⟩) ?_
        refine sv (yAsg rfl) ?_
        refine nil ?_
        show Code.wp _ _ _ _ _
        refine seq ?_
        refine region ?_
        refine sv (fa38_0 h8) ?_
        refine sv (yLdB rfl Try.isAgg3 (hS.at _) rfl) ?_
        refine sv (fa103_1 rfl) ?_
        refine sv (yLdB rfl Try.isAgg3 (hS.at _) rfl) ?_
        refine sv (fa34_1 h3) ?_
        refine sv (yLdB rfl Try.isAgg3 (hS.at _) rfl) ?_
        refine sv (ySub rfl rfl ⟨by omega, by omega⟩) ?_
        refine sv (fa38_1 rfl) ?_
        refine sv (yLdB rfl Try.isAgg3 (hS.at _) rfl) ?_
        refine sv (ySub rfl rfl ⟨by omega, by omega⟩) ?_
        refine sv (yMove rfl) ?_
        refine sv (Y.to (ySub rfl rfl ⟨by omega, by omega⟩) (congrArg _ (read_lo hds))) ?_
        refine sv (yMax rfl rfl) ?_
        refine sv (fa38_0 h8) ?_
        refine sst hS rfl rfl Try.sizeOf3 rfl rfl rfl rfl ?_; clear hS; intro w hS
        refine nil ?_
        show Code.wp _ _ _ _ _
        refine region ?_
        refine sv (fa38_1 h8) ?_
        refine sv (yLdB rfl Try.isAgg3 (hS.at _) rfl) ?_
        refine sv (fa103_1 rfl) ?_
        refine sv (yLdB rfl Try.isAgg3 (hS.at _) rfl) ?_
        refine sv (fa34_1 h3) ?_
        refine sv (yLdB rfl Try.isAgg3 (hS.at _) rfl) ?_
        refine sv (yAdd rfl rfl ⟨by omega, by omega⟩) ?_
        refine sv (fa38_0 rfl) ?_
        refine sv (yLdB rfl Try.isAgg3 (hS.at _) rfl) ?_
        refine sv (ySub rfl rfl ⟨by omega, by omega⟩) ?_
        refine sv (yMove rfl) ?_
        refine sv (Y.to (yAdd rfl rfl ⟨by omega, by omega⟩) (congrArg _ (read_hi hds))) ?_
        refine sv (yMin rfl rfl) ?_
        refine sv (fa38_1 h8) ?_
        refine sst hS rfl rfl Try.sizeOf3 rfl rfl rfl rfl ?_; clear hS; intro w hS
        refine nil ?_
        show Code.wp _ _ _ _ _
        refine region ?_
        refine sv (yMove h10) ?_
        refine sv (yAdd rfl rfl ⟨by omega, by omega⟩) ?_
        refine sv (yAsg rfl) ?_
        refine nil ?_
        exact ⟨_, _, rfl, ⟨k + 1, true, h1, h2, h3, h6, h8, rfl, rfl, (by rw [known_snoc_in hx (by omega), cuts_snoc]; exact hS.sub (.cons _ (.cons _ (List.Sublist.refl _)))), (by omega), (by rw [known_snoc_in hx (by omega)]; simp), rfl⟩, by omega⟩
  ·
    simp only [Bool.and_eq_true, Bool.or_eq_true, Bool.and_eq_false_iff, Bool.or_eq_false_iff, decide_eq_true_eq, decide_eq_false_iff_not, Bool.not_eq_true, Bool.not_eq_false, Bool.not_not, Bool.not_eq_eq_eq_not, Bool.not_true, Bool.not_false, Bool.false_eq_true, Bool.true_eq_false, ne_eq, Decidable.not_not, not_false_eq_true, not_true_eq_false] at c19
    obtain rfl : k = g.readings.length := by omega
    rw [List.take_length] at hA hS
    refine exit ?_
    show Code.wp _ _ _ _ _
    refine seq ?_
    refine seq ?_
    refine region ?_
    refine sv (yMove h9) ?_
    refine sv (yNot rfl) ?_
    refine nil ?_
    show Code.wp _ _ _ _ _
    refine cond rfl (fun c80 => ?_) (fun c80 => ?_)
    ·
      rw [hA] at c80
      simp only [Bool.and_eq_true, Bool.or_eq_true, Bool.and_eq_false_iff, Bool.or_eq_false_iff, decide_eq_true_eq, decide_eq_false_iff_not, Bool.not_eq_true, Bool.not_eq_false, Bool.not_not, Bool.not_eq_eq_eq_not, Bool.not_true, Bool.not_false, Bool.false_eq_true, Bool.true_eq_false, ne_eq, Decidable.not_not, not_false_eq_true, not_true_eq_false] at c80
      refine seq ?_
      refine region ?_
      refine sv (yBuild Try.zeroValue38 rfl pl38 .nil rfl) ?_
      refine sst hS h6 rfl Try.sizeOf38 rfl rfl rfl rfl ?_; clear hS; intro w hS
      refine sv (yAsg rfl) ?_
      refine nil ?_
      show Code.wp _ _ _ _ _
      have hfin := saysG_none (t := t) c80
      refine wp_ret (thenR ?_)
      exact retV (resV2 rfl (rc h6 Try.isAgg38 Try.sizeOf38 (hS.at _) (by rw [hfin]; rfl) rfl) (rt (eqI (by rw [hfin])))) hS.ext
    ·
      rw [hA] at c80
      simp only [Bool.and_eq_true, Bool.or_eq_true, Bool.and_eq_false_iff, Bool.or_eq_false_iff, decide_eq_true_eq, decide_eq_false_iff_not, Bool.not_eq_true, Bool.not_eq_false, Bool.not_not, Bool.not_eq_eq_eq_not, Bool.not_true, Bool.not_false, Bool.false_eq_true, Bool.true_eq_false, ne_eq, Decidable.not_not, not_false_eq_true, not_true_eq_false] at c80
      refine skip ?_
      show Code.wp _ _ _ _ _
      refine seq ?_
      refine seq ?_
      refine region ?_
      refine sv (fa38_0 h8) ?_
      refine sv (yLdB rfl Try.isAgg3 (hS.at _) rfl) ?_
      refine sv (fa38_1 h8) ?_
      refine sv (yLdB rfl Try.isAgg3 (hS.at _) rfl) ?_
      refine sv (yGtr rfl rfl) ?_
      refine nil ?_
      show Code.wp _ _ _ _ _
      refine cond rfl (fun c86 => ?_) (fun c86 => ?_)
      ·
        simp only [Bool.and_eq_true, Bool.or_eq_true, Bool.and_eq_false_iff, Bool.or_eq_false_iff, decide_eq_true_eq, decide_eq_false_iff_not, Bool.not_eq_true, Bool.not_eq_false, Bool.not_not, Bool.not_eq_eq_eq_not, Bool.not_true, Bool.not_false, Bool.false_eq_true, Bool.true_eq_false, ne_eq, Decidable.not_not, not_false_eq_true, not_true_eq_false] at c86
        refine seq ?_
        refine region ?_
        refine sv (yBuild Try.zeroValue38 rfl pl38 .nil rfl) ?_
        refine sst hS h6 rfl Try.sizeOf38 rfl rfl rfl rfl ?_; clear hS; intro w hS
        refine sv (yAsg rfl) ?_
        refine nil ?_
        show Code.wp _ _ _ _ _
        have hfin := saysG_down (t := t) rfl c80 c86
        refine wp_ret (thenR ?_)
        exact retV (resV2 rfl (rc h6 Try.isAgg38 Try.sizeOf38 (hS.at _) (by rw [hfin]; rfl) rfl) (rt (eqI (by rw [hfin])))) hS.ext
      ·
        simp only [Bool.and_eq_true, Bool.or_eq_true, Bool.and_eq_false_iff, Bool.or_eq_false_iff, decide_eq_true_eq, decide_eq_false_iff_not, Bool.not_eq_true, Bool.not_eq_false, Bool.not_not, Bool.not_eq_eq_eq_not, Bool.not_true, Bool.not_false, Bool.false_eq_true, Bool.true_eq_false, ne_eq, Decidable.not_not, not_false_eq_true, not_true_eq_false] at c86
        refine skip ?_
        show Code.wp _ _ _ _ _
        refine seq ?_
        refine region ?_
        refine sv (yLdBA h8 Try.isAgg38 Try.sizeOf38 (hS.at _) rfl rfl) ?_
        refine sst hS h6 rfl Try.sizeOf38 rfl rfl rfl rfl ?_; clear hS; intro w hS
        refine sv (yAsg rfl) ?_
        refine nil ?_
        show Code.wp _ _ _ _ _
        have hfin := saysG_ok (t := t) rfl c80 c86
        refine wp_ret ?_
        exact retV (resV2 rfl (rc h6 Try.isAgg38 Try.sizeOf38 (hS.at _) (by rw [hfin]; rfl) rfl) (rt (eqI (by rw [hfin])))) hS.ext
set_option maxHeartbeats 1000000 in
/-- barrage/barrageref01.Says -/
theorem c_rSays {g : Gauge} {cs : List Value} {t now : Int} {w0 : World} (hg : RGauge w0 cs g) : CV Try.prog 27 #[.agg cs.toArray, .int .i64 t, .int .i64 now] w0 (.tuple #[.agg (spanC (saysF g t now).1).toArray, .int .i64 (saysF g t now).2]) := by
  obtain ⟨dv, rv, rfl, hnm, hge, hgr, hsd, hsr⟩ := id hg
  obtain ⟨a, cap, rfl, hcap, hmx, hel⟩ := id hsd
  obtain ⟨a2, cap2, rfl, hcap2, hmx2, hel2⟩ := id hsr
  refine enter Try.func27 rfl Try.ntmps27 rfl ?_
  have hS := St.start w0
  refine seq ?_
  refine region ?_
  refine sbox hS rfl rfl ?_; clear hS; intro b3 w hS
  refine salloc hS Try.zeroValue38 rfl ?_; clear hS; intro b6 w hS
  refine sv (yAsg rfl) ?_
  refine nil ?_
  show Code.wp _ _ _ _ _
  refine seq ?_
  refine region ?_
  refine sv (yLdBA rfl Try.isAgg34 Try.sizeOf34 (hS.at _) rfl rfl) ?_
  refine scall Try.call25 (.cons rfl .nil) (c_rCheckGauge (hg.ext hS.ext)) ?_
  rintro _ w ⟨rfl, hE⟩; replace hS := hS.step hE; clear hE
  refine sv (yMove rfl) ?_
  refine sv (yExt rfl rfl) ?_
  refine sv (yExt rfl rfl) ?_
  refine sv (yExt rfl rfl) ?_
  refine sv (yAsg rfl) ?_
  refine sv (yAsg rfl) ?_
  refine sv (yAsg rfl) ?_
  refine nil ?_
  show Code.wp _ _ _ _ _
  refine seq ?_
  refine seq ?_
  refine region ?_
  refine sv (yMove rfl) ?_
  refine sv (yEql rfl rfl) ?_
  refine sv (yMove rfl) ?_
  refine sg rfl rfl rfl (fun g => (yMove rfl)) (fun v20 g20 => ?_)
  refine sgc hS rfl rfl rfl Try.call67 (fun g => (.cons (g20.1 g) .nil)) (fun g => c_tick) ?_; clear hS; intro v21 w hS g21
  refine sg rfl rfl rfl (fun g => (yNot (g21.1 g))) (fun v22 g22 => ?_)
  refine sg rfl rfl rfl (fun g => (yMove (g22.1 g))) (fun v23 g23 => ?_)
  refine sgg rfl rfl g23 (fun g => (yMove rfl)) (fun v24 g24 => ?_)
  refine sggc hS rfl rfl g23 Try.call67 (fun g => (.cons (g24.1 g) .nil)) (fun g => c_tick) ?_; clear hS; intro v25 w hS g25
  refine sgg rfl rfl g23 (fun g => (yNot (g25.1 g))) (fun v26 g26 => ?_)
  refine sg rfl rfl rfl (fun g => (yOr (g23.1 g) rfl (fun hB => (g26.1 ⟨g, hB⟩)))) (fun v27 g27 => ?_)
  refine sv (yAnd rfl (fun hB => (g27.1 hB)) rfl) ?_
  refine nil ?_
  show Code.wp _ _ _ _ _
  refine cond rfl (fun c28 => ?_) (fun c28 => ?_)
  ·
    simp only [Bool.and_eq_true, Bool.or_eq_true, Bool.and_eq_false_iff, Bool.or_eq_false_iff, decide_eq_true_eq, decide_eq_false_iff_not, Bool.not_eq_true, Bool.not_eq_false, Bool.not_not, Bool.not_eq_eq_eq_not, Bool.not_true, Bool.not_false, Bool.false_eq_true, Bool.true_eq_false, ne_eq, Decidable.not_not, not_false_eq_true, not_true_eq_false, ← outB_inB] at c28
    have hE : saysE g t now = 7 := saysE_bad c28.1 c28.2
    refine region ?_
    refine sv (yAsg rfl) ?_
    refine nil ?_
    show Code.wp _ _ _ _ _
    refine seq ?_
    refine seq ?_
    refine region ?_
    refine sv (yMove rfl) ?_
    refine sv (yNeq rfl rfl) ?_
    refine nil ?_
    show Code.wp _ _ _ _ _
    refine cond rfl (fun c30 => ?_) (fun c30 => ?_)
    ·
      simp only [Bool.and_eq_true, Bool.or_eq_true, Bool.and_eq_false_iff, Bool.or_eq_false_iff, decide_eq_true_eq, decide_eq_false_iff_not, Bool.not_eq_true, Bool.not_eq_false, Bool.not_not, Bool.not_eq_eq_eq_not, Bool.not_true, Bool.not_false, Bool.false_eq_true, Bool.true_eq_false, ne_eq, Decidable.not_not, not_false_eq_true, not_true_eq_false] at c30
      refine seq ?_
      refine region ?_
      refine sv (yBuild Try.zeroValue38 rfl pl38 .nil rfl) ?_
      refine sv (yMove rfl) ?_
      refine sst hS rfl rfl Try.sizeOf38 rfl rfl rfl rfl ?_; clear hS; intro w hS
      refine sv (yAsg rfl) ?_
      refine nil ?_
      show Code.wp _ _ _ _ _
      have hfin : saysF g t now = (⟨0, 0⟩, saysE g t now) := by unfold saysF; rw [if_pos (by rw [hE]; decide)]
      refine wp_ret (thenR ?_)
      exact retV (resV2 rfl (rc rfl Try.isAgg38 Try.sizeOf38 (hS.at _) (by rw [hfin]; rfl) rfl) (rt (eqI (by rw [hfin]; first | rfl | exact hE)))) hS.ext
    ·
      simp only [Bool.and_eq_true, Bool.or_eq_true, Bool.and_eq_false_iff, Bool.or_eq_false_iff, decide_eq_true_eq, decide_eq_false_iff_not, Bool.not_eq_true, Bool.not_eq_false, Bool.not_not, Bool.not_eq_eq_eq_not, Bool.not_true, Bool.not_false, Bool.false_eq_true, Bool.true_eq_false, ne_eq, Decidable.not_not, not_false_eq_true, not_true_eq_false] at c30
      exact absurd c30 (by decide)
  ·
    simp only [Bool.and_eq_true, Bool.or_eq_true, Bool.and_eq_false_iff, Bool.or_eq_false_iff, decide_eq_true_eq, decide_eq_false_iff_not, Bool.not_eq_true, Bool.not_eq_false, Bool.not_not, Bool.not_eq_eq_eq_not, Bool.not_true, Bool.not_false, Bool.false_eq_true, Bool.true_eq_false, ne_eq, Decidable.not_not, not_false_eq_true, not_true_eq_false, ← outB_inB] at c28
    have hE : saysE g t now = (checkG g).2.2 := saysE_good c28
    refine skip ?_
    show Code.wp _ _ _ _ _
    refine seq ?_
    refine seq ?_
    refine region ?_
    refine sv (yMove rfl) ?_
    refine sv (yNeq rfl rfl) ?_
    refine nil ?_
    show Code.wp _ _ _ _ _
    refine cond rfl (fun c30 => ?_) (fun c30 => ?_)
    ·
      simp only [Bool.and_eq_true, Bool.or_eq_true, Bool.and_eq_false_iff, Bool.or_eq_false_iff, decide_eq_true_eq, decide_eq_false_iff_not, Bool.not_eq_true, Bool.not_eq_false, Bool.not_not, Bool.not_eq_eq_eq_not, Bool.not_true, Bool.not_false, Bool.false_eq_true, Bool.true_eq_false, ne_eq, Decidable.not_not, not_false_eq_true, not_true_eq_false] at c30
      refine seq ?_
      refine region ?_
      refine sv (yBuild Try.zeroValue38 rfl pl38 .nil rfl) ?_
      refine sv (yMove rfl) ?_
      refine sst hS rfl rfl Try.sizeOf38 rfl rfl rfl rfl ?_; clear hS; intro w hS
      refine sv (yAsg rfl) ?_
      refine nil ?_
      show Code.wp _ _ _ _ _
      have hfin : saysF g t now = (⟨0, 0⟩, saysE g t now) := by unfold saysF; rw [if_pos (by rw [hE]; exact c30)]
      refine wp_ret (thenR ?_)
      exact retV (resV2 rfl (rc rfl Try.isAgg38 Try.sizeOf38 (hS.at _) (by rw [hfin]; rfl) rfl) (rt (eqI (by rw [hfin]; first | rfl | exact hE)))) hS.ext
    ·
      simp only [Bool.and_eq_true, Bool.or_eq_true, Bool.and_eq_false_iff, Bool.or_eq_false_iff, decide_eq_true_eq, decide_eq_false_iff_not, Bool.not_eq_true, Bool.not_eq_false, Bool.not_not, Bool.not_eq_eq_eq_not, Bool.not_true, Bool.not_false, Bool.false_eq_true, Bool.true_eq_false, ne_eq, Decidable.not_not, not_false_eq_true, not_true_eq_false] at c30
      have hE0 : saysE g t now = 0 := by rw [hE, c30]
      obtain ⟨hok, htb, hnb⟩ := saysE_ok hE0
      have hfin : saysF g t now = saysG g t now := by unfold saysF; rw [if_neg (fun h => h hE0)]
      refine skip ?_
      show Code.wp _ _ _ _ _
      refine seq ?_
      refine region ?_
      refine sv (yLdBA rfl Try.isAgg34 Try.sizeOf34 (hS.at _) rfl rfl) ?_
      refine sv (yMove rfl) ?_
      refine sv (yMove rfl) ?_
      refine scall Try.call70 (.cons rfl (.cons rfl (.cons rfl .nil))) (c_rsays (hg.ext hS.ext) hok htb) ?_
      rintro _ w ⟨rfl, hE⟩; replace hS := hS.step hE; clear hE
      refine sv (yExt rfl rfl) ?_
      refine sv (yExt rfl rfl) ?_
      refine sst hS rfl rfl Try.sizeOf38 rfl rfl rfl rfl ?_; clear hS; intro w hS
      refine sv (yAsg rfl) ?_
      refine nil ?_
      show Code.wp _ _ _ _ _
      refine wp_ret ?_
      exact retV (resV2 rfl (rc rfl Try.isAgg38 Try.sizeOf38 (hS.at _) (by rw [hfin]; rfl) rfl) (rt (eqI (by rw [hfin])))) hS.ext
end Go.Proofs.Ytpgmehignepidaa
/- part Wk8 -/
namespace Go.Proofs.Ytpgmehignepidaa
open Go Bx
set_option maxHeartbeats 1000000 in
/-- barrage/tide.gauges -/
theorem c_gauges {l : List Gauge} {v : Value} {t now : Int} {w0 : World} (hl : Sl w0 5 RGauge v l) (ht : I64 t) (hn : I64 now) : CV Try.prog 76 #[v, .int .i64 t, .int .i64 now] w0 (.int .i64 (gaugesE l t now)) := by
  obtain ⟨a, cap, rfl, hcap, hmx, hel⟩ := id hl
  refine enter Try.func76 rfl Try.ntmps76 rfl ?_
  have hS := St.start w0
  refine seq ?_
  refine region ?_
  refine sv (yAsg rfl) ?_
  refine nil ?_
  show Code.wp _ _ _ _ _
  refine seq ?_
  refine seq ?_
  refine region ?_
  refine sv (yMove rfl) ?_
  refine sv (yLen rfl Try.underlying66) ?_
  refine sv (yGtr rfl rfl) ?_
  refine nil ?_
  show Code.wp _ _ _ _ _
  refine cond rfl (fun c15 => ?_) (fun c15 => ?_)
  ·
    simp only [Bool.and_eq_true, Bool.or_eq_true, Bool.and_eq_false_iff, Bool.or_eq_false_iff, decide_eq_true_eq, decide_eq_false_iff_not, Bool.not_eq_true, Bool.not_eq_false, Bool.not_not, Bool.not_eq_eq_eq_not, Bool.not_true, Bool.not_false, Bool.false_eq_true, Bool.true_eq_false, ne_eq, Decidable.not_not, not_false_eq_true, not_true_eq_false] at c15
    refine seq ?_
    refine region ?_
    refine sv (yAsg rfl) ?_
    refine nil ?_
    show Code.wp _ _ _ _ _
    have hfin : gaugesE l t now = 3 := by unfold gaugesE; rw [if_pos c15]
    refine wp_ret (thenR ?_)
    exact retV (res1 rfl (eqI hfin)) hS.ext
  ·
    simp only [Bool.and_eq_true, Bool.or_eq_true, Bool.and_eq_false_iff, Bool.or_eq_false_iff, decide_eq_true_eq, decide_eq_false_iff_not, Bool.not_eq_true, Bool.not_eq_false, Bool.not_not, Bool.not_eq_eq_eq_not, Bool.not_true, Bool.not_false, Bool.false_eq_true, Bool.true_eq_false, ne_eq, Decidable.not_not, not_false_eq_true, not_true_eq_false] at c15
    refine skip ?_
    show Code.wp _ _ _ _ _
    refine seq ?_
    refine region ?_
    refine smkmap Value.string hS ?_; clear hS; intro b16 w hS
    refine sv (yAsg rfl) ?_
    refine nil ?_
    show Code.wp _ _ _ _ _
    refine seq ?_
    refine seq ?_
    refine region ?_
    refine sv (yMove rfl) ?_
    refine sv (yLen rfl Try.underlying66) ?_
    refine sv (yMove rfl) ?_
    refine nil ?_
    show Code.wp _ _ _ _ _
    refine block ?_
    refine loop (fun f w zz => ∃ (k : Nat), f 0 = .slice a l.length cap ∧ f 1 = .int .i64 t ∧ f 2 = .int .i64 now ∧ f 7 = .map (some b16) ∧ f 17 = .slice a l.length cap ∧ f 18 = .int .i64 (l.length : Int) ∧ f 19 = .int .i64 (k : Int) ∧ StX [] w0 w [mapI b16 Value.string (seenM (uniq (namesG (l.take k))))] ∧ (k ≤ l.length) ∧ (gErrs l = gErrs (l.drop k)) ∧ zz = l.length - k) _ ⟨_, rfl, 0, rfl, rfl, rfl, rfl, rfl, rfl, rfl, hS, (Nat.zero_le _), (rfl), rfl⟩ ?_
    clear hS
    rintro f w _ ⟨k, h0, h1, h2, h7, h17, h18, h19, hS, hk, hI, rfl⟩
    refine seq ?_
    refine region ?_
    refine sv (yLss h19 h18) ?_
    refine nil ?_
    show Code.wp _ _ _ _ _
    refine seq ?_
    refine cond rfl (fun c20 => ?_) (fun c20 => ?_)
    ·
      simp only [Bool.and_eq_true, Bool.or_eq_true, Bool.and_eq_false_iff, Bool.or_eq_false_iff, decide_eq_true_eq, decide_eq_false_iff_not, Bool.not_eq_true, Bool.not_eq_false, Bool.not_not, Bool.not_eq_eq_eq_not, Bool.not_true, Bool.not_false, Bool.false_eq_true, Bool.true_eq_false, ne_eq, Decidable.not_not, not_false_eq_true, not_true_eq_false] at c20
      refine skip ?_
      show Code.wp _ _ _ _ _
      refine seq ?_
      refine block ?_
      refine seq ?_
      refine region ?_
      obtain ⟨g, hx, hd⟩ := drop_of (l := l) (k := k) (by omega)
      obtain ⟨b, o, cs, ha, hlen, hcs, hR⟩ := hel (k) (by omega)
      obtain rfl : g = l[k] := (List.getElem?_eq_some_iff.1 hx).2.symm
      generalize l[k] = g at hx hd hR
      have hg := hR
      obtain ⟨dv, rv, hcse, hnm, hge, hgr, hsd, hsr⟩ := id hg
      subst hcse
      obtain ⟨a1, cap1, rfl, hcap1, hmx1, hel1⟩ := id hsd
      obtain ⟨a2, cap2, rfl, hcap2, hmx2, hel2⟩ := id hsr
      refine sv (yIxa h17 ha h19 Try.runUnderlying66 Try.sizeOf34 (by omega) (by omega)) ?_
      refine sv (yLdA rfl Try.isAgg34 Try.sizeOf34 (hcs.ext hS.ext) rfl) ?_
      refine salloc hS Try.zeroValue34 rfl ?_; clear hS; intro b9 w hS
      refine sst hS rfl rfl Try.sizeOf34 rfl rfl rfl rfl ?_; clear hS; intro w hS
      refine nil ?_
      show Code.wp _ _ _ _ _
      refine seq ?_
      refine seq ?_
      refine region ?_
      refine sv (yLdBA rfl Try.isAgg34 Try.sizeOf34 (hS.at _) rfl rfl) ?_
      refine scall Try.call24 (.cons rfl .nil) (c_CheckGauge (hg.ext hS.ext)) ?_
      rintro _ w ⟨rfl, hE⟩; replace hS := hS.step hE; clear hE
      refine sv (yMove rfl) ?_
      refine sv (yExt rfl rfl) ?_
      refine sv (yExt rfl rfl) ?_
      refine sv (yExt rfl rfl) ?_
      refine sv (yAsg rfl) ?_
      refine sv (yAsg rfl) ?_
      refine sv (yAsg rfl) ?_
      refine nil ?_
      show Code.wp _ _ _ _ _
      refine seq ?_
      refine region ?_
      refine sv (yMove rfl) ?_
      refine sv (yNeq rfl rfl) ?_
      refine nil ?_
      show Code.wp _ _ _ _ _
      refine cond rfl (fun c30 => ?_) (fun c30 => ?_)
      ·
        simp only [Bool.and_eq_true, Bool.or_eq_true, Bool.and_eq_false_iff, Bool.or_eq_false_iff, decide_eq_true_eq, decide_eq_false_iff_not, Bool.not_eq_true, Bool.not_eq_false, Bool.not_not, Bool.not_eq_eq_eq_not, Bool.not_true, Bool.not_false, Bool.false_eq_true, Bool.true_eq_false, ne_eq, Decidable.not_not, not_false_eq_true, not_true_eq_false] at c30
        refine seq ?_
        refine region ?_
        refine sv (yMove rfl) ?_
        refine sv (yAsg rfl) ?_
        refine nil ?_
        show Code.wp _ _ _ _ _
        have hfin : gaugesE l t now = (checkG g).2.2 := by unfold gaugesE; rw [if_neg c15, if_pos (by rw [gErrs_bad hd hI c30]; exact c30), gErrs_bad hd hI c30]
        refine wp_ret (thenR (blockR (thenR (thenR (blockR (thenR ?_))))))
        exact retV (res1 rfl (eqI hfin)) hS.ext
      ·
        simp only [Bool.and_eq_true, Bool.or_eq_true, Bool.and_eq_false_iff, Bool.or_eq_false_iff, decide_eq_true_eq, decide_eq_false_iff_not, Bool.not_eq_true, Bool.not_eq_false, Bool.not_not, Bool.not_eq_eq_eq_not, Bool.not_true, Bool.not_false, Bool.false_eq_true, Bool.true_eq_false, ne_eq, Decidable.not_not, not_false_eq_true, not_true_eq_false] at c30
        refine skip ?_
        show Code.wp _ _ _ _ _
        refine region ?_
        refine sv (yMove h7) ?_
        refine sv (fa34_0 rfl) ?_
        refine sv (yLdB rfl Try.isAgg9 (hS.at _) rfl) ?_
        refine smapset Value.string hS rfl rfl rfl Try.runUnderlying97 (keyStr Try.underlying9) ?_; clear hS; intro w hS
        refine nil ?_
        show Code.wp _ _ _ _ _
        refine region ?_
        refine sv (yAdd h19 rfl ⟨by omega, by omega⟩) ?_
        refine sv (yMove rfl) ?_
        refine nil ?_
        exact ⟨_, _, rfl, ⟨k + 1, h0, h1, h2, h7, h17, h18, rfl, (by rw [names_take hx, ← setM_uniq]; exact hS.sub (.cons _ (List.Sublist.refl _))), (by omega), (gErrs_take hd hI c30), rfl⟩, by omega⟩
    ·
      simp only [Bool.and_eq_true, Bool.or_eq_true, Bool.and_eq_false_iff, Bool.or_eq_false_iff, decide_eq_true_eq, decide_eq_false_iff_not, Bool.not_eq_true, Bool.not_eq_false, Bool.not_not, Bool.not_eq_eq_eq_not, Bool.not_true, Bool.not_false, Bool.false_eq_true, Bool.true_eq_false, ne_eq, Decidable.not_not, not_false_eq_true, not_true_eq_false] at c20
      obtain rfl : k = l.length := by omega
      rw [List.drop_length] at hI
      have hI0 : gErrs l = 0 := hI
      rw [List.take_length] at hS
      have hun := uniq_le (namesG l)
      rw [names_len] at hun
      refine exit ?_
      show Code.wp _ _ _ _ _
      refine seq ?_
      refine seq ?_
      refine region ?_
      refine sv (yMove h7) ?_
      refine sv (yLenM rfl Try.underlying97 (hS.is b16)) ?_
      refine sv (yMove h0) ?_
      refine sv (yLen rfl Try.underlying66) ?_
      refine sv (yLss rfl rfl) ?_
      refine nil ?_
      show Code.wp _ _ _ _ _
      refine cond rfl (fun c40 => ?_) (fun c40 => ?_)
      ·
        simp only [Bool.and_eq_true, Bool.or_eq_true, Bool.and_eq_false_iff, Bool.or_eq_false_iff, decide_eq_true_eq, decide_eq_false_iff_not, Bool.not_eq_true, Bool.not_eq_false, Bool.not_not, Bool.not_eq_eq_eq_not, Bool.not_true, Bool.not_false, Bool.false_eq_true, Bool.true_eq_false, ne_eq, Decidable.not_not, not_false_eq_true, not_true_eq_false, seenM, List.length_map] at c40
        refine seq ?_
        refine region ?_
        refine sv (yAsg rfl) ?_
        refine nil ?_
        show Code.wp _ _ _ _ _
        have hfin : gaugesE l t now = 5 := by unfold gaugesE; rw [if_neg c15, if_neg (fun h => h hI0), if_pos (fun h => by have := hun.2.2 h; omega)]
        refine wp_ret (thenR ?_)
        exact retV (res1 rfl (eqI hfin)) hS.ext
      ·
        simp only [Bool.and_eq_true, Bool.or_eq_true, Bool.and_eq_false_iff, Bool.or_eq_false_iff, decide_eq_true_eq, decide_eq_false_iff_not, Bool.not_eq_true, Bool.not_eq_false, Bool.not_not, Bool.not_eq_eq_eq_not, Bool.not_true, Bool.not_false, Bool.false_eq_true, Bool.true_eq_false, ne_eq, Decidable.not_not, not_false_eq_true, not_true_eq_false, seenM, List.length_map] at c40
        refine skip ?_
        show Code.wp _ _ _ _ _
        refine seq ?_
        refine region ?_
        refine sv (yMove h1) ?_
        refine sv (yMove h2) ?_
        refine sbslice hS Try.underlying44 Try.sizeOf3 rfl Try.zeroValue3 rfl (.cons rfl rfl (.cons rfl rfl .nil)) rfl ?_; clear hS; intro b43 w hS
        refine scall Try.call68 (.cons rfl .nil) (c_ticks (l := [t, now]) (ints_sl (l := [t, now]) (hS.at b43) (by simp; exact ⟨ht, hn⟩) (Nat.le_of_ble_eq_true rfl))) ?_
        rintro _ w ⟨rfl, hE⟩; replace hS := hS.step hE; clear hE
        refine sv (yAsg rfl) ?_
        refine nil ?_
        show Code.wp _ _ _ _ _
        have hfin : gaugesE l t now = ticksE [t, now] := by unfold gaugesE; rw [if_neg c15, if_neg (fun h => h hI0), if_neg (fun h => h (hun.2.1 (by omega)))]
        refine wp_ret ?_
        exact retV (res1 rfl (eqI hfin)) hS.ext
/-- barrage/barragelaw01.Table -/
theorem c_Table {w0 : World} : CE Try.prog 49 #[] w0 (fun v w' => ∃ cs, v = .agg cs.toArray ∧ RTable w' cs exT ∧ Ext w0 w') := by
  refine enter Try.func49 rfl Try.ntmps49 rfl ?_
  have hS := St.start w0
  refine seq ?_
  refine region ?_
  refine salloc hS Try.zeroValue24 rfl ?_; clear hS; intro b0 w hS
  refine nil ?_
  show Code.wp _ _ _ _ _
  refine seq ?_
  refine region ?_
  refine sbslice hS Try.underlying44 Try.sizeOf3 rfl Try.zeroValue3 rfl (.cons rfl rfl (.cons rfl rfl (.cons rfl rfl (.cons rfl rfl .nil)))) rfl ?_; clear hS; intro b1 w hS
  refine sv (yBuild Try.zeroValue46 rfl pl46 (.cons rfl rfl (.cons rfl rfl (.cons rfl rfl (.cons rfl rfl (.cons rfl rfl .nil))))) rfl) ?_
  refine sbslice hS Try.underlying22 Try.sizeOf46 rfl Try.zeroValue46 rfl (.cons rfl rfl .nil) rfl ?_; clear hS; intro b3 w hS
  refine sv (yBuild Try.zeroValue24 rfl pl24 (.cons rfl rfl (.cons rfl rfl .nil)) rfl) ?_
  refine sst hS rfl rfl Try.sizeOf24 rfl rfl rfl rfl ?_; clear hS; intro w hS
  refine nil ?_
  show Code.wp _ _ _ _ _
  refine wp_ret ?_
  refine retQ (resV1 rfl (rc rfl Try.isAgg24 Try.sizeOf24 (hS.at _) rfl rfl)) ?_
  refine ⟨_, rfl, ⟨_, rfl, by decide, ?_⟩, hS.ext⟩
  refine sl_of_blk (hS.at b3) (css := [[.string ⟨#[109, 111, 111, 110]⟩, .slice (some ⟨b1, 0, none⟩) 4 4, .int .i64 0, .int .i64 2, .int .i64 37, .int .i64 10]]) rfl ⟨rfl, ⟨_, rfl, by decide, ?_, by decide, by decide, by decide, by decide⟩, trivial⟩ (by decide) rfl
  exact sl_of_blk (hS.at b1) (css := [_, _, _, _]) rfl ⟨rfl, ⟨rfl, by decide⟩, rfl, ⟨rfl, by decide⟩, rfl, ⟨rfl, by decide⟩, rfl, ⟨rfl, by decide⟩, trivial⟩ (by decide) rfl
/-- barrage/barragelaw01.Gauge -/
theorem c_Gauge {w0 : World} : CE Try.prog 50 #[] w0 (fun v w' => ∃ cs, v = .agg cs.toArray ∧ RGauge w' cs exG ∧ Ext w0 w') := by
  refine enter Try.func50 rfl Try.ntmps50 rfl ?_
  have hS := St.start w0
  refine seq ?_
  refine region ?_
  refine salloc hS Try.zeroValue34 rfl ?_; clear hS; intro b0 w hS
  refine nil ?_
  show Code.wp _ _ _ _ _
  refine seq ?_
  refine region ?_
  refine sv (yBuild Try.zeroValue78 rfl pl78 .nil rfl) ?_
  refine sv (yBuild Try.zeroValue38 rfl pl38 (.cons rfl rfl (.cons rfl rfl .nil)) rfl) ?_
  refine sv (yBuild Try.zeroValue78 rfl pl78 (.cons rfl rfl (.cons rfl rfl .nil)) rfl) ?_
  refine sbslice hS Try.underlying31 Try.sizeOf78 rfl Try.zeroValue78 rfl (.cons rfl rfl (.cons rfl rfl .nil)) rfl ?_; clear hS; intro b4 w hS
  refine sv (yBuild Try.zeroValue103 rfl pl103 (.cons rfl rfl (.cons rfl rfl .nil)) rfl) ?_
  refine sv (yBuild Try.zeroValue103 rfl pl103 (.cons rfl rfl (.cons rfl rfl .nil)) rfl) ?_
  refine sbslice hS Try.underlying32 Try.sizeOf103 rfl Try.zeroValue103 rfl (.cons rfl rfl (.cons rfl rfl .nil)) rfl ?_; clear hS; intro b7 w hS
  refine sv (yBuild Try.zeroValue34 rfl pl34 (.cons rfl rfl (.cons rfl rfl (.cons rfl rfl (.cons rfl rfl (.cons rfl rfl .nil))))) rfl) ?_
  refine sst hS rfl rfl Try.sizeOf34 rfl rfl rfl rfl ?_; clear hS; intro w hS
  refine nil ?_
  show Code.wp _ _ _ _ _
  refine wp_ret ?_
  refine retQ (resV1 rfl (rc rfl Try.isAgg34 Try.sizeOf34 (hS.at _) rfl rfl)) ?_
  refine ⟨_, rfl, ⟨_, _, rfl, by decide, by decide, by decide, ?_, ?_⟩, hS.ext⟩
  · exact sl_of_blk (hS.at b4) (css := [_, _]) rfl ⟨rfl, ⟨rfl, by decide, by decide, by decide⟩, rfl, ⟨rfl, by decide, by decide, by decide⟩, trivial⟩ (by decide) rfl
  · exact sl_of_blk (hS.at b7) (css := [_, _]) rfl ⟨rfl, ⟨rfl, by decide, by decide⟩, rfl, ⟨rfl, by decide, by decide⟩, trivial⟩ (by decide) rfl
end Go.Proofs.Ytpgmehignepidaa
/- part Wk9 -/
namespace Go.Proofs.Ytpgmehignepidaa
open Go Bx
/-- barrage/tide.Agree -/
theorem c_AgreeE {l : List Gauge} {v : Value} {t now : Int} {w0 : World} (hl : Sl w0 5 RGauge v l) (ht : I64 t) (hn : I64 now) (he : gaugesE l t now ≠ 0) : CV Try.prog 39 #[v, .int .i64 t, .int .i64 now] w0 (.tuple #[.int .i64 0, .slice none 0 0, .int .i64 (gaugesE l t now)]) := by
  refine enter Try.func39 rfl Try.ntmps39 rfl ?_
  have hS := St.start w0
  refine seq ?_
  refine region ?_
  refine salloc hS Try.zeroValue3 rfl ?_; clear hS; intro b6 w hS
  refine sv (yAsg rfl) ?_
  refine sv (yAsg rfl) ?_
  refine nil ?_
  show Code.wp _ _ _ _ _
  refine seq ?_
  refine seq ?_
  refine region ?_
  refine sv (yMove rfl) ?_
  refine sv (yMove rfl) ?_
  refine sv (yMove rfl) ?_
  refine scall Try.call76 (.cons rfl (.cons rfl (.cons rfl .nil))) (c_gauges (hl.ext RGauge.stays hS.ext) ht hn) ?_
  rintro _ w ⟨rfl, hE⟩; replace hS := hS.step hE; clear hE
  refine sv (yAsg rfl) ?_
  refine nil ?_
  show Code.wp _ _ _ _ _
  refine seq ?_
  refine region ?_
  refine sv (yMove rfl) ?_
  refine sv (yNeq rfl rfl) ?_
  refine nil ?_
  show Code.wp _ _ _ _ _
  refine cond rfl (fun c23 => ?_) (fun c23 => ?_)
  ·
    refine seq ?_
    refine region ?_
    refine sv (yMove rfl) ?_
    refine sst hS rfl rfl Try.sizeOf3 rfl rfl rfl rfl ?_; clear hS; intro w hS
    refine sv (yAsg rfl) ?_
    refine sv (yAsg rfl) ?_
    refine nil ?_
    show Code.wp _ _ _ _ _
    refine wp_ret (thenR ?_)
    exact retV (resV3 rfl (rc1 rfl Try.isAgg3 (hS.at _) rfl) (rt rfl) (rt rfl)) hS.ext
  ·
    exact absurd (decide_eq_false_iff_not.1 c23) (fun h => h he)
set_option maxHeartbeats 1000000 in
/-- barrage/barragelaw01.Awake -/
theorem c_Awake {w0 : World} : CV Try.prog 23 #[] w0 (.bool true) := by
  refine enter Try.func23 rfl Try.ntmps23 rfl ?_
  have hS := St.start w0
  refine seq ?_
  refine region ?_
  refine sv (yAsg rfl) ?_
  refine nil ?_
  show Code.wp _ _ _ _ _
  refine seq ?_
  refine region ?_
  refine scall Try.call49 .nil c_Table ?_
  rintro _ w ⟨csT, rfl, hT, hE⟩; replace hS := hS.step hE; clear hE
  refine scall Try.call28 (.cons rfl (.cons rfl .nil)) (c_Level hT (by decide)) ?_
  rintro _ w ⟨rfl, hE⟩; replace hS := hS.step hE; clear hE
  refine sv (yMove rfl) ?_
  refine sv (yExt rfl rfl) ?_
  refine sv (yExt rfl rfl) ?_
  refine salloc hS Try.zeroValue38 rfl ?_; clear hS; intro b1 w hS
  refine sst hS rfl rfl Try.sizeOf38 rfl rfl rfl rfl ?_; clear hS; intro w hS
  refine sv (yAsg rfl) ?_
  refine nil ?_
  show Code.wp _ _ _ _ _
  refine seq ?_
  refine region ?_
  refine scall Try.call50 .nil c_Gauge ?_
  rintro _ w ⟨csG, rfl, hGG, hE⟩; replace hS := hS.step hE; clear hE
  refine scall Try.call26 (.cons rfl (.cons rfl (.cons rfl .nil))) (c_Says hGG (by decide) (by decide)) ?_
  rintro _ w ⟨rfl, hE⟩; replace hS := hS.step hE; clear hE
  refine sv (yMove rfl) ?_
  refine sv (yExt rfl rfl) ?_
  refine sv (yExt rfl rfl) ?_
  refine salloc hS Try.zeroValue38 rfl ?_; clear hS; intro b3 w hS
  refine sst hS rfl rfl Try.sizeOf38 rfl rfl rfl rfl ?_; clear hS; intro w hS
  refine sv (yAsg rfl) ?_
  refine nil ?_
  show Code.wp _ _ _ _ _
  refine seq ?_
  refine region ?_
  refine scall Try.call50 .nil c_Gauge ?_
  rintro _ w ⟨csH, rfl, hGH, hE⟩; replace hS := hS.step hE; clear hE
  refine scall Try.call26 (.cons rfl (.cons rfl (.cons rfl .nil))) (c_Says hGH (by decide) (by decide)) ?_
  rintro _ w ⟨rfl, hE⟩; replace hS := hS.step hE; clear hE
  refine sv (yMove rfl) ?_
  refine sv (yExt rfl rfl) ?_
  refine sv (yExt rfl rfl) ?_
  refine salloc hS Try.zeroValue38 rfl ?_; clear hS; intro b5 w hS
  refine sst hS rfl rfl Try.sizeOf38 rfl rfl rfl rfl ?_; clear hS; intro w hS
  refine sv (yAsg rfl) ?_
  refine nil ?_
  show Code.wp _ _ _ _ _
  refine seq ?_
  refine region ?_
  refine smake (bytes := 80) (zs := [.string ⟨#[]⟩, .int .i64 0, .int .i64 0, .slice none 0 0, .slice none 0 0]) (m := 9) hS rfl rfl Try.underlying66 ti34 rfl rfl rfl rfl rfl (by omega) (by omega) ?_; clear hS; intro b26 w hS
  refine scall Try.call39 (.cons rfl (.cons rfl (.cons rfl .nil))) (c_AgreeE (l := List.replicate 9 zG) (sl_of_blk (css := List.replicate 9 [.string ⟨#[]⟩, .int .i64 0, .int .i64 0, .slice none 0 0, .slice none 0 0]) (hS.at b26) rfl (rows_rep rfl rg_zero 9) (by decide) rfl) (by decide) (by decide) (by rw [gaugesE_long (by decide)]; decide)) ?_
  rintro _ w ⟨rfl, hE⟩; replace hS := hS.step hE; clear hE
  refine sv (yMove rfl) ?_
  refine sv (yExt rfl rfl) ?_
  refine sv (yExt rfl rfl) ?_
  refine sv (yExt rfl rfl) ?_
  refine sv (yAsg rfl) ?_
  refine sv (yAsg rfl) ?_
  refine sv (yAsg rfl) ?_
  refine nil ?_
  show Code.wp _ _ _ _ _
  refine seq ?_
  refine region ?_
  refine sv (yMove rfl) ?_
  refine sv (yEql rfl rfl) ?_
  refine sv (yMove rfl) ?_
  refine sg rfl rfl rfl (fun g => (yMove rfl)) (fun v34 g34 => ?_)
  refine sg rfl rfl rfl (fun g => (yEql (g34.1 g) rfl)) (fun v35 g35 => ?_)
  refine sv (yAnd rfl (fun hB => (g35.1 hB)) rfl) ?_
  refine sv (yMove rfl) ?_
  refine sg rfl rfl rfl (fun g => (yMove rfl)) (fun v38 g38 => ?_)
  refine sg rfl rfl rfl (fun g => (yEql (g38.1 g) rfl)) (fun v39 g39 => ?_)
  refine sv (yAnd rfl (fun hB => (g39.1 hB)) rfl) ?_
  refine sv (yMove rfl) ?_
  refine sg rfl rfl rfl (fun g => (yMove rfl)) (fun v42 g42 => ?_)
  refine sg rfl rfl rfl (fun g => (yEql (g42.1 g) rfl)) (fun v43 g43 => ?_)
  refine sv (yAnd rfl (fun hB => (g43.1 hB)) rfl) ?_
  refine sv (yMove rfl) ?_
  refine sg rfl rfl rfl (fun g => (yLdBA rfl Try.isAgg38 Try.sizeOf38 (hS.at _) rfl rfl)) (fun v46 g46 => ?_)
  refine sg rfl rfl rfl (fun g => (yBuild Try.zeroValue38 rfl pl38 (.cons rfl rfl (.cons rfl rfl .nil)) rfl)) (fun v47 g47 => ?_)
  refine sg rfl rfl rfl (fun g => (eqS38 (g46.1 g) (g47.1 g))) (fun v48 g48 => ?_)
  refine sv (yAnd rfl (fun hB => (g48.1 hB)) rfl) ?_
  refine sv (yMove rfl) ?_
  refine sg rfl rfl rfl (fun g => (yLdBA rfl Try.isAgg38 Try.sizeOf38 (hS.at _) rfl rfl)) (fun v51 g51 => ?_)
  refine sg rfl rfl rfl (fun g => (yBuild Try.zeroValue38 rfl pl38 (.cons rfl rfl (.cons rfl rfl .nil)) rfl)) (fun v52 g52 => ?_)
  refine sg rfl rfl rfl (fun g => (eqS38 (g51.1 g) (g52.1 g))) (fun v53 g53 => ?_)
  refine sv (yAnd rfl (fun hB => (g53.1 hB)) rfl) ?_
  refine sv (yAsg rfl) ?_
  refine nil ?_
  show Code.wp _ _ _ _ _
  refine wp_ret ?_
  exact retV (res1 rfl (eqB (by rw [gaugesE_long (by decide)]; decide +kernel))) hS.ext
/-- barrage/barragelaw01.TideChecks -/
theorem w_TideChecks {s : ByteArray} {t : Table} {cs : List Value} {w0 : World} (hs : s.size ≤ 9223372036854775807) (ht : RTable w0 cs t) : CV Try.prog 3 #[.string s, .agg cs.toArray] w0 (.bool true) := by
  obtain ⟨cv, rfl, hmean, hsl⟩ := id ht
  obtain ⟨a, cap, rfl, hcap, hmx, hel⟩ := id hsl
  refine enter Try.func3 rfl Try.ntmps3 rfl ?_
  have hS := St.start w0
  refine seq ?_
  refine region ?_
  refine sbox hS rfl rfl ?_; clear hS; intro b3 w hS
  refine sv (yAsg rfl) ?_
  refine nil ?_
  show Code.wp _ _ _ _ _
  refine seq ?_
  refine region ?_
  refine sv (yLdBA rfl Try.isAgg24 Try.sizeOf24 (hS.at _) rfl rfl) ?_
  refine scall Try.call19 (.cons rfl .nil) (c_Check (ht.ext hS.ext)) ?_
  rintro _ w ⟨rfl, hE⟩; replace hS := hS.step hE; clear hE
  refine sv (yMove rfl) ?_
  refine sv (yExt rfl rfl) ?_
  refine sv (yExt rfl rfl) ?_
  refine sv (yAsg rfl) ?_
  refine sv (yAsg rfl) ?_
  refine nil ?_
  show Code.wp _ _ _ _ _
  refine seq ?_
  refine region ?_
  refine sv (yLdBA rfl Try.isAgg24 Try.sizeOf24 (hS.at _) rfl rfl) ?_
  refine scall Try.call20 (.cons rfl .nil) (c_rCheck (ht.ext hS.ext)) ?_
  rintro _ w ⟨rfl, hE⟩; replace hS := hS.step hE; clear hE
  refine sv (yMove rfl) ?_
  refine sv (yExt rfl rfl) ?_
  refine sv (yExt rfl rfl) ?_
  refine sv (yAsg rfl) ?_
  refine sv (yAsg rfl) ?_
  refine nil ?_
  show Code.wp _ _ _ _ _
  refine seq ?_
  refine region ?_
  refine sv (yMove rfl) ?_
  refine scall Try.call21 (.cons rfl .nil) (c_Name hs) ?_
  rintro _ w ⟨rfl, hE⟩; replace hS := hS.step hE; clear hE
  refine sv (yMove rfl) ?_
  refine scall Try.call22 (.cons rfl .nil) (c_rName hs) ?_
  rintro _ w ⟨rfl, hE⟩; replace hS := hS.step hE; clear hE
  refine sv (yBEq rfl rfl Try.underlying4) ?_
  refine sv (yMove rfl) ?_
  refine sg rfl rfl rfl (fun g => (yMove rfl)) (fun v25 g25 => ?_)
  refine sg rfl rfl rfl (fun g => (yMove rfl)) (fun v26 g26 => ?_)
  refine sg rfl rfl rfl (fun g => (yEql (g25.1 g) (g26.1 g))) (fun v27 g27 => ?_)
  refine sv (yAnd rfl (fun hB => (g27.1 hB)) rfl) ?_
  refine sv (yMove rfl) ?_
  refine sg rfl rfl rfl (fun g => (yMove rfl)) (fun v30 g30 => ?_)
  refine sg rfl rfl rfl (fun g => (yMove rfl)) (fun v31 g31 => ?_)
  refine sg rfl rfl rfl (fun g => (yEql (g30.1 g) (g31.1 g))) (fun v32 g32 => ?_)
  refine sv (yAnd rfl (fun hB => (g32.1 hB)) rfl) ?_
  refine sv (yMove rfl) ?_
  refine sgc hS rfl rfl rfl Try.call23 (fun g => .nil) (fun g => c_Awake) ?_; clear hS; intro v35 w hS g35
  refine sv (yAnd rfl (fun hB => (g35.1 hB)) rfl) ?_
  refine sv (yAsg rfl) ?_
  refine nil ?_
  show Code.wp _ _ _ _ _
  refine wp_ret ?_
  exact retV (res1 rfl (eqB (by simp))) hS.ext
/-- barrage/barragelaw01.TideSays -/
theorem w_TideSays {g : Gauge} {cs : List Value} {t now : Int} {w0 : World} (hg : RGauge w0 cs g) (ht : I64 t) (hn : I64 now) : CV Try.prog 4 #[.agg cs.toArray, .int .i64 t, .int .i64 now] w0 (.bool true) := by
  obtain ⟨dv, rv, rfl, hnm, hge, hgr, hsd, hsr⟩ := id hg
  obtain ⟨a, cap, rfl, hcap, hmx, hel⟩ := id hsd
  obtain ⟨a2, cap2, rfl, hcap2, hmx2, hel2⟩ := id hsr
  refine enter Try.func4 rfl Try.ntmps4 rfl ?_
  have hS := St.start w0
  refine seq ?_
  refine region ?_
  refine sbox hS rfl rfl ?_; clear hS; intro b3 w hS
  refine sv (yAsg rfl) ?_
  refine nil ?_
  show Code.wp _ _ _ _ _
  refine seq ?_
  refine region ?_
  refine sv (yLdBA rfl Try.isAgg34 Try.sizeOf34 (hS.at _) rfl rfl) ?_
  refine scall Try.call24 (.cons rfl .nil) (c_CheckGauge (hg.ext hS.ext)) ?_
  rintro _ w ⟨rfl, hE⟩; replace hS := hS.step hE; clear hE
  refine sv (yMove rfl) ?_
  refine sv (yExt rfl rfl) ?_
  refine sv (yExt rfl rfl) ?_
  refine sv (yExt rfl rfl) ?_
  refine sv (yAsg rfl) ?_
  refine sv (yAsg rfl) ?_
  refine sv (yAsg rfl) ?_
  refine nil ?_
  show Code.wp _ _ _ _ _
  refine seq ?_
  refine region ?_
  refine sv (yLdBA rfl Try.isAgg34 Try.sizeOf34 (hS.at _) rfl rfl) ?_
  refine scall Try.call25 (.cons rfl .nil) (c_rCheckGauge (hg.ext hS.ext)) ?_
  rintro _ w ⟨rfl, hE⟩; replace hS := hS.step hE; clear hE
  refine sv (yMove rfl) ?_
  refine sv (yExt rfl rfl) ?_
  refine sv (yExt rfl rfl) ?_
  refine sv (yExt rfl rfl) ?_
  refine sv (yAsg rfl) ?_
  refine sv (yAsg rfl) ?_
  refine sv (yAsg rfl) ?_
  refine nil ?_
  show Code.wp _ _ _ _ _
  refine seq ?_
  refine seq ?_
  refine region ?_
  refine sv (yMove rfl) ?_
  refine sv (yMove rfl) ?_
  refine sv (yNeq rfl rfl) ?_
  refine sv (yMove rfl) ?_
  refine sg rfl rfl rfl (fun g => (yMove rfl)) (fun v31 g31 => ?_)
  refine sg rfl rfl rfl (fun g => (yMove rfl)) (fun v32 g32 => ?_)
  refine sg rfl rfl rfl (fun g => (yNeq (g31.1 g) (g32.1 g))) (fun v33 g33 => ?_)
  refine sv (yOr rfl rfl (fun hB => (g33.1 hB))) ?_
  refine sv (yMove rfl) ?_
  refine sg rfl rfl rfl (fun g => (yMove rfl)) (fun v36 g36 => ?_)
  refine sg rfl rfl rfl (fun g => (yMove rfl)) (fun v37 g37 => ?_)
  refine sg rfl rfl rfl (fun g => (yNeq (g36.1 g) (g37.1 g))) (fun v38 g38 => ?_)
  refine sv (yOr rfl rfl (fun hB => (g38.1 hB))) ?_
  refine nil ?_
  show Code.wp _ _ _ _ _
  refine cond rfl (fun c39 => ?_) (fun c39 => ?_)
  ·
    exact absurd c39 (by simp)
  ·
    refine skip ?_
    show Code.wp _ _ _ _ _
    refine seq ?_
    refine region ?_
    refine sv (yLdBA rfl Try.isAgg34 Try.sizeOf34 (hS.at _) rfl rfl) ?_
    refine sv (yMove rfl) ?_
    refine sv (yMove rfl) ?_
    refine scall Try.call26 (.cons rfl (.cons rfl (.cons rfl .nil))) (c_Says (hg.ext hS.ext) ht hn) ?_
    rintro _ w ⟨rfl, hE⟩; replace hS := hS.step hE; clear hE
    refine sv (yMove rfl) ?_
    refine sv (yExt rfl rfl) ?_
    refine sv (yExt rfl rfl) ?_
    refine salloc hS Try.zeroValue38 rfl ?_; clear hS; intro b13 w hS
    refine sst hS rfl rfl Try.sizeOf38 rfl rfl rfl rfl ?_; clear hS; intro w hS
    refine sv (yAsg rfl) ?_
    refine nil ?_
    show Code.wp _ _ _ _ _
    refine seq ?_
    refine region ?_
    refine sv (yLdBA rfl Try.isAgg34 Try.sizeOf34 (hS.at _) rfl rfl) ?_
    refine sv (yMove rfl) ?_
    refine sv (yMove rfl) ?_
    refine scall Try.call27 (.cons rfl (.cons rfl (.cons rfl .nil))) (c_rSays (hg.ext hS.ext)) ?_
    rintro _ w ⟨rfl, hE⟩; replace hS := hS.step hE; clear hE
    refine sv (yMove rfl) ?_
    refine sv (yExt rfl rfl) ?_
    refine sv (yExt rfl rfl) ?_
    refine salloc hS Try.zeroValue38 rfl ?_; clear hS; intro b14 w hS
    refine sst hS rfl rfl Try.sizeOf38 rfl rfl rfl rfl ?_; clear hS; intro w hS
    refine sv (yAsg rfl) ?_
    refine nil ?_
    show Code.wp _ _ _ _ _
    refine seq ?_
    refine region ?_
    refine sv (yLdBA rfl Try.isAgg38 Try.sizeOf38 (hS.at _) rfl rfl) ?_
    refine sv (yLdBA rfl Try.isAgg38 Try.sizeOf38 (hS.at _) rfl rfl) ?_
    refine sv (eqS38 rfl rfl) ?_
    refine sv (yMove rfl) ?_
    refine sg rfl rfl rfl (fun g => (yMove rfl)) (fun v58 g58 => ?_)
    refine sg rfl rfl rfl (fun g => (yMove rfl)) (fun v59 g59 => ?_)
    refine sg rfl rfl rfl (fun g => (yEql (g58.1 g) (g59.1 g))) (fun v60 g60 => ?_)
    refine sv (yAnd rfl (fun hB => (g60.1 hB)) rfl) ?_
    refine sv (yMove rfl) ?_
    refine sgc hS rfl rfl rfl Try.call23 (fun g => .nil) (fun g => c_Awake) ?_; clear hS; intro v63 w hS g63
    refine sv (yAnd rfl (fun hB => (g63.1 hB)) rfl) ?_
    refine sv (yAsg rfl) ?_
    refine nil ?_
    show Code.wp _ _ _ _ _
    refine wp_ret ?_
    exact retV (res1 rfl (eqB (by simp))) hS.ext
end Go.Proofs.Ytpgmehignepidaa
/- part Wk10 -/
namespace Go.Proofs.Ytpgmehignepidaa
open Go Bx
/-- barrage/barragelaw01.has -/
theorem c_has {s : Span} {a : Int} {w0 : World} : CV Try.prog 29 #[.agg (spanC s).toArray, .int .i64 a] w0 (.bool (hasB s a)) := by
  refine enter Try.func29 rfl Try.ntmps29 rfl ?_
  have hS := St.start w0
  refine seq ?_
  refine region ?_
  refine sbox hS rfl rfl ?_; clear hS; intro b2 w hS
  refine sv (yAsg rfl) ?_
  refine nil ?_
  show Code.wp _ _ _ _ _
  refine seq ?_
  refine region ?_
  refine sv (fa38_0 rfl) ?_
  refine sv (yLdB rfl Try.isAgg3 (hS.at _) rfl) ?_
  refine sv (yMove rfl) ?_
  refine sv (yLeq rfl rfl) ?_
  refine sv (yMove rfl) ?_
  refine sg rfl rfl rfl (fun g => (yMove rfl)) (fun v10 g10 => ?_)
  refine sg rfl rfl rfl (fun g => (fa38_1 rfl)) (fun v11 g11 => ?_)
  refine sg rfl rfl rfl (fun g => (yLdB (g11.1 g) Try.isAgg3 (hS.at _) rfl)) (fun v12 g12 => ?_)
  refine sg rfl rfl rfl (fun g => (yLeq (g10.1 g) (g12.1 g))) (fun v13 g13 => ?_)
  refine sv (yAnd rfl (fun hB => (g13.1 hB)) rfl) ?_
  refine sv (yAsg rfl) ?_
  refine nil ?_
  show Code.wp _ _ _ _ _
  refine wp_ret ?_
  exact retV (res1 rfl rfl) hS.ext
/-- barrage/barragelaw01.within -/
theorem c_within {a b : Span} {w0 : World} : CV Try.prog 30 #[.agg (spanC a).toArray, .agg (spanC b).toArray] w0 (.bool (withinB a b)) := by
  refine enter Try.func30 rfl Try.ntmps30 rfl ?_
  have hS := St.start w0
  refine seq ?_
  refine region ?_
  refine sbox hS rfl rfl ?_; clear hS; intro b2 w hS
  refine sbox hS rfl rfl ?_; clear hS; intro b3 w hS
  refine sv (yAsg rfl) ?_
  refine nil ?_
  show Code.wp _ _ _ _ _
  refine seq ?_
  refine region ?_
  refine sv (fa38_0 rfl) ?_
  refine sv (yLdB rfl Try.isAgg3 (hS.at _) rfl) ?_
  refine sv (fa38_0 rfl) ?_
  refine sv (yLdB rfl Try.isAgg3 (hS.at _) rfl) ?_
  refine sv (yLeq rfl rfl) ?_
  refine sv (yMove rfl) ?_
  refine sg rfl rfl rfl (fun g => (fa38_1 rfl)) (fun v11 g11 => ?_)
  refine sg rfl rfl rfl (fun g => (yLdB (g11.1 g) Try.isAgg3 (hS.at _) rfl)) (fun v12 g12 => ?_)
  refine sg rfl rfl rfl (fun g => (fa38_1 rfl)) (fun v13 g13 => ?_)
  refine sg rfl rfl rfl (fun g => (yLdB (g13.1 g) Try.isAgg3 (hS.at _) rfl)) (fun v14 g14 => ?_)
  refine sg rfl rfl rfl (fun g => (yLeq (g12.1 g) (g14.1 g))) (fun v15 g15 => ?_)
  refine sv (yAnd rfl (fun hB => (g15.1 hB)) rfl) ?_
  refine sv (yAsg rfl) ?_
  refine nil ?_
  show Code.wp _ _ _ _ _
  refine wp_ret ?_
  exact retV (res1 rfl rfl) hS.ext
set_option maxHeartbeats 1000000 in
/-- barrage/barragelaw01.TideKnows -/
theorem w_TideKnows {g : Gauge} {cs xs : List Value} {x : Int × Int × Int} {w0 : World} (hg : RGauge w0 cs g) (hx : RI3 w0 xs x) : CV Try.prog 7 #[.agg cs.toArray, .agg xs.toArray] w0 (.bool true) := by
  obtain ⟨dv, rv, rfl, hnm, hge, hgr, hsd, hsr⟩ := id hg
  obtain ⟨a, cap, rfl, hcap, hmx, hel⟩ := id hsd
  obtain ⟨a2, cap2, rfl, hcap2, hmx2, hel2⟩ := id hsr
  obtain ⟨t, a1, a2⟩ := x
  obtain ⟨rfl, hi1, hi2, hi3⟩ := hx
  simp only [] at hi1 hi2 hi3
  have hmm : min a1 a2 ≤ max a1 a2 := by omega
  have hmi : I64 (min a1 a2) := by unfold I64 at *; omega
  have hma : I64 (max a1 a2) := by unfold I64 at *; omega
  refine enter Try.func7 rfl Try.ntmps7 rfl ?_
  have hS := St.start w0
  refine seq ?_
  refine region ?_
  refine sbox hS rfl rfl ?_; clear hS; intro b2 w hS
  refine sbox hS rfl rfl ?_; clear hS; intro b3 w hS
  refine sv (yAsg rfl) ?_
  refine nil ?_
  show Code.wp _ _ _ _ _
  refine seq ?_
  refine region_draw mixed (by kernel_rfl) hS ?_
  refine qv (fun w hS => (yIxA rfl rfl Try.runUnderlying58 Try.sizeOf3 (by omega) (by omega))) ?_
  refine qv (fun w hS => (yLdB rfl Try.isAgg3 (hS.at _) rfl)) ?_
  refine qv (fun w hS => (yIxA rfl rfl Try.runUnderlying58 Try.sizeOf3 (by omega) (by omega))) ?_
  refine qv (fun w hS => (yLdB rfl Try.isAgg3 (hS.at _) rfl)) ?_
  refine qv (fun w hS => (yIxA rfl rfl Try.runUnderlying58 Try.sizeOf3 (by omega) (by omega))) ?_
  refine qv (fun w hS => (yLdB rfl Try.isAgg3 (hS.at _) rfl)) ?_
  refine qv (fun w hS => (yMin rfl rfl)) ?_
  refine qv (fun w hS => (yIxA rfl rfl Try.runUnderlying58 Try.sizeOf3 (by omega) (by omega))) ?_
  refine qv (fun w hS => (yLdB rfl Try.isAgg3 (hS.at _) rfl)) ?_
  refine qv (fun w hS => (yIxA rfl rfl Try.runUnderlying58 Try.sizeOf3 (by omega) (by omega))) ?_
  refine qv (fun w hS => (yLdB rfl Try.isAgg3 (hS.at _) rfl)) ?_
  refine qv (fun w hS => (yMax rfl rfl)) ?_
  refine qv (fun w hS => (yAsg rfl)) ?_
  refine qv (fun w hS => (yAsg rfl)) ?_
  refine qv (fun w hS => (yAsg rfl)) ?_
  clear hS; refine qnil (fun w hS => ?_)
  show Code.wp _ _ _ _ _
  refine seq ?_
  refine region ?_
  refine sv (yLdBA rfl Try.isAgg34 Try.sizeOf34 (hS.at _) rfl rfl) ?_
  refine sv (yMove rfl) ?_
  refine sv (yMove rfl) ?_
  refine scall Try.call26 (.cons rfl (.cons rfl (.cons rfl .nil))) (c_Says (hg.ext hS.ext) hi1 hmi) ?_
  rintro _ w ⟨rfl, hE⟩; replace hS := hS.step hE; clear hE
  refine sv (yMove rfl) ?_
  refine sv (yExt rfl rfl) ?_
  refine sv (yExt rfl rfl) ?_
  refine salloc hS Try.zeroValue38 rfl ?_; clear hS; intro b8 w hS
  refine sst hS rfl rfl Try.sizeOf38 rfl rfl rfl rfl ?_; clear hS; intro w hS
  refine sv (yAsg rfl) ?_
  refine nil ?_
  show Code.wp _ _ _ _ _
  refine seq ?_
  refine region ?_
  refine sv (yLdBA rfl Try.isAgg34 Try.sizeOf34 (hS.at _) rfl rfl) ?_
  refine sv (yMove rfl) ?_
  refine sv (yMove rfl) ?_
  refine scall Try.call26 (.cons rfl (.cons rfl (.cons rfl .nil))) (c_Says (hg.ext hS.ext) hi1 hma) ?_
  rintro _ w ⟨rfl, hE⟩; replace hS := hS.step hE; clear hE
  refine sv (yMove rfl) ?_
  refine sv (yExt rfl rfl) ?_
  refine sv (yExt rfl rfl) ?_
  refine salloc hS Try.zeroValue38 rfl ?_; clear hS; intro b10 w hS
  refine sst hS rfl rfl Try.sizeOf38 rfl rfl rfl rfl ?_; clear hS; intro w hS
  refine sv (yAsg rfl) ?_
  refine nil ?_
  show Code.wp _ _ _ _ _
  refine seq ?_
  refine seq ?_
  refine region ?_
  refine sv (yMove rfl) ?_
  refine sv (yEql rfl rfl) ?_
  refine sv (yMove rfl) ?_
  refine sg rfl rfl rfl (fun g => (yMove rfl)) (fun v41 g41 => ?_)
  refine sg rfl rfl rfl (fun g => (yEql (g41.1 g) rfl)) (fun v42 g42 => ?_)
  refine sv (yAnd rfl (fun hB => (g42.1 hB)) rfl) ?_
  refine nil ?_
  show Code.wp _ _ _ _ _
  refine cond rfl (fun c43 => ?_) (fun c43 => ?_)
  ·
    simp only [Bool.and_eq_true, Bool.or_eq_true, Bool.and_eq_false_iff, Bool.or_eq_false_iff, decide_eq_true_eq, decide_eq_false_iff_not, Bool.not_eq_true, Bool.not_eq_false, Bool.not_not, Bool.not_eq_eq_eq_not, Bool.not_true, Bool.not_false, Bool.false_eq_true, Bool.true_eq_false, ne_eq, Decidable.not_not, not_false_eq_true, not_true_eq_false] at c43
    obtain ⟨hw, h2, h3, h4⟩ := says_more hmm c43.1 c43.2
    refine seq ?_
    refine region ?_
    refine sv (yLdBA rfl Try.isAgg38 Try.sizeOf38 (hS.at _) rfl rfl) ?_
    refine sv (yLdBA rfl Try.isAgg38 Try.sizeOf38 (hS.at _) rfl rfl) ?_
    refine scall Try.call30 (.cons rfl (.cons rfl .nil)) c_within ?_
    rintro _ w ⟨rfl, hE⟩; replace hS := hS.step hE; clear hE
    refine sv (yMove rfl) ?_
    refine sg rfl rfl rfl (fun g => (fa38_0 rfl)) (fun v48 g48 => ?_)
    refine sg rfl rfl rfl (fun g => (yLdB (g48.1 g) Try.isAgg3 (hS.at _) rfl)) (fun v49 g49 => ?_)
    refine sg rfl rfl rfl (fun g => (fa38_1 rfl)) (fun v50 g50 => ?_)
    refine sg rfl rfl rfl (fun g => (yLdB (g50.1 g) Try.isAgg3 (hS.at _) rfl)) (fun v51 g51 => ?_)
    refine sg rfl rfl rfl (fun g => (yLeq (g49.1 g) (g51.1 g))) (fun v52 g52 => ?_)
    refine sv (yAnd rfl (fun hB => (g52.1 hB)) rfl) ?_
    refine sv (yMove rfl) ?_
    refine sg rfl rfl rfl (fun g => (fa38_0 rfl)) (fun v55 g55 => ?_)
    refine sg rfl rfl rfl (fun g => (yLdB (g55.1 g) Try.isAgg3 (hS.at _) rfl)) (fun v56 g56 => ?_)
    refine sg rfl rfl rfl (fun g => (yGeq (g56.1 g) rfl)) (fun v57 g57 => ?_)
    refine sv (yAnd rfl (fun hB => (g57.1 hB)) rfl) ?_
    refine sv (yMove rfl) ?_
    refine sg rfl rfl rfl (fun g => (fa38_1 rfl)) (fun v60 g60 => ?_)
    refine sg rfl rfl rfl (fun g => (yLdB (g60.1 g) Try.isAgg3 (hS.at _) rfl)) (fun v61 g61 => ?_)
    refine sg rfl rfl rfl (fun g => (yLeq (g61.1 g) rfl)) (fun v62 g62 => ?_)
    refine sv (yAnd rfl (fun hB => (g62.1 hB)) rfl) ?_
    refine sv (yMove rfl) ?_
    refine sgc hS rfl rfl rfl Try.call23 (fun g => .nil) (fun g => c_Awake) ?_; clear hS; intro v65 w hS g65
    refine sv (yAnd rfl (fun hB => (g65.1 hB)) rfl) ?_
    refine sv (yAsg rfl) ?_
    refine nil ?_
    show Code.wp _ _ _ _ _
    refine wp_ret (thenR ?_)
    exact retV (res1 rfl (eqB (by rw [withinB_iff.2 hw]; simp [h2, h3, h4]))) hS.ext
  ·
    simp only [Bool.and_eq_true, Bool.or_eq_true, Bool.and_eq_false_iff, Bool.or_eq_false_iff, decide_eq_true_eq, decide_eq_false_iff_not, Bool.not_eq_true, Bool.not_eq_false, Bool.not_not, Bool.not_eq_eq_eq_not, Bool.not_true, Bool.not_false, Bool.false_eq_true, Bool.true_eq_false, ne_eq, Decidable.not_not, not_false_eq_true, not_true_eq_false] at c43
    refine skip ?_
    show Code.wp _ _ _ _ _
    refine seq ?_
    refine region ?_
    refine sv (yMove rfl) ?_
    refine sv (yNeq rfl rfl) ?_
    refine sv (yMove rfl) ?_
    refine sg rfl rfl rfl (fun g => (yMove rfl)) (fun v70 g70 => ?_)
    refine sg rfl rfl rfl (fun g => (yNeq (g70.1 g) rfl)) (fun v71 g71 => ?_)
    refine sv (yOr rfl rfl (fun hB => (g71.1 hB))) ?_
    refine sv (yMove rfl) ?_
    refine sgc hS rfl rfl rfl Try.call23 (fun g => .nil) (fun g => c_Awake) ?_; clear hS; intro v74 w hS g74
    refine sv (yAnd rfl (fun hB => (g74.1 hB)) rfl) ?_
    refine sv (yAsg rfl) ?_
    refine nil ?_
    show Code.wp _ _ _ _ _
    have hd := says_down (g := g) (t := t) hmm
    refine wp_ret ?_
    exact retV (res1 rfl (eqB (by by_cases h9 : (saysF g t (min a1 a2)).2 = 9 <;> simp [h9, hd]))) hS.ext
end Go.Proofs.Ytpgmehignepidaa
/- part Wk11 -/
namespace Go.Proofs.Ytpgmehignepidaa
open Go Bx
set_option maxHeartbeats 1000000 in
/-- barrage/barragelaw01.TideBetween -/
theorem w_TideBetween {t : Table} {cs : List Value} {tick : Int} {dv : Value} {ds : List Int} {w0 : World} (ht : RTable w0 cs t) (hti : I64 tick) (hds : Sl w0 1 RI8 dv ds) : CV Try.prog 5 #[.agg cs.toArray, .int .i64 tick, dv] w0 (.bool true) := by
  obtain ⟨cv, rfl, hmean, hsl⟩ := id ht
  obtain ⟨a, cap, rfl, hcap, hmx, hel⟩ := id hsl
  obtain ⟨ad, capd, rfl, hcapd, hmxd, held⟩ := id hds
  refine enter Try.func5 rfl Try.ntmps5 rfl ?_
  have hS := St.start w0
  refine seq ?_
  refine region ?_
  refine sbox hS rfl rfl ?_; clear hS; intro b3 w hS
  refine sv (yAsg rfl) ?_
  refine nil ?_
  show Code.wp _ _ _ _ _
  refine seq ?_
  refine region ?_
  refine sv (yLdBA rfl Try.isAgg24 Try.sizeOf24 (hS.at _) rfl rfl) ?_
  refine sv (yMove rfl) ?_
  refine scall Try.call28 (.cons rfl (.cons rfl .nil)) (c_Level (ht.ext hS.ext) hti) ?_
  rintro _ w ⟨rfl, hE⟩; replace hS := hS.step hE; clear hE
  refine sv (yMove rfl) ?_
  refine sv (yExt rfl rfl) ?_
  refine sv (yExt rfl rfl) ?_
  refine salloc hS Try.zeroValue38 rfl ?_; clear hS; intro b7 w hS
  refine sst hS rfl rfl Try.sizeOf38 rfl rfl rfl rfl ?_; clear hS; intro w hS
  refine sv (yAsg rfl) ?_
  refine nil ?_
  show Code.wp _ _ _ _ _
  refine seq ?_
  refine region ?_
  refine sv (yLdBA rfl Try.isAgg24 Try.sizeOf24 (hS.at _) rfl rfl) ?_
  refine scall Try.call19 (.cons rfl .nil) (c_Check (ht.ext hS.ext)) ?_
  rintro _ w ⟨rfl, hE⟩; replace hS := hS.step hE; clear hE
  refine sv (yMove rfl) ?_
  refine sv (yExt rfl rfl) ?_
  refine sv (yExt rfl rfl) ?_
  refine sv (yAsg rfl) ?_
  refine sv (yAsg rfl) ?_
  refine nil ?_
  show Code.wp _ _ _ _ _
  refine seq ?_
  refine seq ?_
  refine region ?_
  refine sv (yMove rfl) ?_
  refine sv (yNeq rfl rfl) ?_
  refine sv (yMove rfl) ?_
  refine sg rfl rfl rfl (fun g => (yMove rfl)) (fun v35 g35 => ?_)
  refine sg rfl rfl rfl (fun g => (yNeq (g35.1 g) rfl)) (fun v36 g36 => ?_)
  refine sv (yOr rfl rfl (fun hB => (g36.1 hB))) ?_
  refine sv (yMove rfl) ?_
  refine sg rfl rfl rfl (fun g => (fa24_1 rfl)) (fun v39 g39 => ?_)
  refine sg rfl rfl rfl (fun g => (yLdB (g39.1 g) Try.isAgg22 (hS.at _) rfl)) (fun v40 g40 => ?_)
  refine sg rfl rfl rfl (fun g => (yLen (g40.1 g) Try.underlying22)) (fun v41 g41 => ?_)
  refine sg rfl rfl rfl (fun g => (yGtr (g41.1 g) rfl)) (fun v42 g42 => ?_)
  refine sv (yOr rfl rfl (fun hB => (g42.1 hB))) ?_
  refine nil ?_
  show Code.wp _ _ _ _ _
  refine cond rfl (fun c43 => ?_) (fun c43 => ?_)
  ·
    simp only [Bool.and_eq_true, Bool.or_eq_true, Bool.and_eq_false_iff, Bool.or_eq_false_iff, decide_eq_true_eq, decide_eq_false_iff_not, Bool.not_eq_true, Bool.not_eq_false, Bool.not_not, Bool.not_eq_eq_eq_not, Bool.not_true, Bool.not_false, Bool.false_eq_true, Bool.true_eq_false, ne_eq, Decidable.not_not, not_false_eq_true, not_true_eq_false] at c43
    refine seq ?_
    refine region ?_
    refine scall Try.call23 .nil c_Awake ?_
    rintro _ w ⟨rfl, hE⟩; replace hS := hS.step hE; clear hE
    refine sv (yAsg rfl) ?_
    refine nil ?_
    show Code.wp _ _ _ _ _
    refine wp_ret (thenR ?_)
    exact retV (res1 rfl rfl) hS.ext
  ·
    simp only [Bool.and_eq_true, Bool.or_eq_true, Bool.and_eq_false_iff, Bool.or_eq_false_iff, decide_eq_true_eq, decide_eq_false_iff_not, Bool.not_eq_true, Bool.not_eq_false, Bool.not_not, Bool.not_eq_eq_eq_not, Bool.not_true, Bool.not_false, Bool.false_eq_true, Bool.true_eq_false, ne_eq, Decidable.not_not, not_false_eq_true, not_true_eq_false] at c43
    obtain ⟨⟨hL, hC⟩, hlen⟩ := c43
    obtain ⟨_, htb, hLe⟩ := levelF_zero hL
    have hok := tableOk_of hC
    rw [hLe] at hS
    have hmb0 := hok.mean
    have h12 := hok.len
    refine skip ?_
    show Code.wp _ _ _ _ _
    refine seq ?_
    refine region ?_
    refine sv (fa24_0 rfl) ?_
    refine sv (yLdB rfl Try.isAgg3 (hS.at _) rfl) ?_
    refine sv (yAsg rfl) ?_
    refine nil ?_
    show Code.wp _ _ _ _ _
    refine seq ?_
    refine region ?_
    refine sv (yLdBA rfl Try.isAgg24 Try.sizeOf24 (hS.at _) rfl rfl) ?_
    refine salloc hS Try.zeroValue24 rfl ?_; clear hS; intro b12 w hS
    refine sst hS rfl rfl Try.sizeOf24 rfl rfl rfl rfl ?_; clear hS; intro w hS
    refine nil ?_
    show Code.wp _ _ _ _ _
    refine seq ?_
    refine region ?_
    refine sv (fa24_1 rfl) ?_
    refine sst hS rfl rfl Try.sizeOf22 rfl rfl rfl rfl ?_; clear hS; intro w hS
    refine nil ?_
    show Code.wp _ _ _ _ _
    refine seq ?_
    refine seq ?_
    refine region ?_
    refine sv (yAsg rfl) ?_
    refine nil ?_
    show Code.wp _ _ _ _ _
    refine block ?_
    refine loop (fun f w zz => ∃ (k : Nat) (sum : Int) (v : Value) (css : List (List Value)), f 1 = .int .i64 tick ∧ f 2 = .slice ad ds.length capd ∧ f 3 = .pointer (some ⟨b3, 0, none⟩) ∧ f 7 = .pointer (some ⟨b7, 0, none⟩) ∧ f 11 = .int .i64 sum ∧ f 12 = .pointer (some ⟨b12, 0, none⟩) ∧ f 13 = .int .i64 (k : Int) ∧ StX [] w0 w [rowI v 46 6 (k) (css).flatten, blk b12 [.int .i64 t.mean, v] 24, blk b7 (spanC (lvlT t tick)) 38, blk b3 [.int .i64 t.mean, .slice a t.consts.length cap] 24] ∧ (k ≤ t.consts.length) ∧ (Bx.Rows w0 6 RConst css (wides 0 (t.consts.take k))) ∧ (Bd sum (lvl t.mean (t.consts.take k) tick).lo (lvl t.mean (t.consts.take k) tick).hi) ∧ zz = t.consts.length - k) _ ⟨_, rfl, 0, _, _, [], rfl, rfl, rfl, rfl, rfl, rfl, rfl, (hS.nilrow 46 6), (Nat.zero_le _), (trivial), (⟨Int.le_refl _, Int.le_refl _⟩), rfl⟩ ?_
    clear hS
    rintro f w _ ⟨k, sum, v, css, h1, h2, h3, h7, h11, h12, h13, hS, hk, hrows, hsum, rfl⟩
    refine seq ?_
    refine seq ?_
    refine region ?_
    refine sv (yMove h13) ?_
    refine sv (fa24_1 h3) ?_
    refine sv (yLdB rfl Try.isAgg22 (hS.at _) rfl) ?_
    refine sv (yLen rfl Try.underlying22) ?_
    refine sv (yLss rfl rfl) ?_
    refine nil ?_
    show Code.wp _ _ _ _ _
    refine cond rfl (fun c53 => ?_) (fun c53 => ?_)
    ·
      simp only [Bool.and_eq_true, Bool.or_eq_true, Bool.and_eq_false_iff, Bool.or_eq_false_iff, decide_eq_true_eq, decide_eq_false_iff_not, Bool.not_eq_true, Bool.not_eq_false, Bool.not_not, Bool.not_eq_eq_eq_not, Bool.not_true, Bool.not_false, Bool.false_eq_true, Bool.true_eq_false, ne_eq, Decidable.not_not, not_false_eq_true, not_true_eq_false] at c53
      have hlb := lvl_bd hok.mean (t.consts.take k) tick (fun x hx => hok.consts x (List.mem_of_mem_take hx))
      have htl : (t.consts.take k).length ≤ 12 := by simp; omega
      obtain ⟨c, hx, hd⟩ := drop_of (l := t.consts) (k := k) (by omega)
      obtain ⟨b, o, cs, ha, hlen, hcs, hR⟩ := hel (k) (by omega)
      obtain rfl : c = t.consts[k] := (List.getElem?_eq_some_iff.1 hx).2.symm
      generalize t.consts[k] = c at hx hd hR
      obtain ⟨hv, rfl, hn1, hsl1, hi1, hi2, hi3, hi4⟩ := hR
      have hx0 := hx
      have hcok : ConstOk c := hok.consts c (List.mem_of_getElem? hx)
      obtain ⟨a1, cap1, rfl, hq1, hq2, hel1⟩ := id hsl1
      have hpb := pAt_bd hcok tick
      generalize hpe : pAt c tick = p at hpb
      have hqb := quot_bd hcok hpb
      have hcy := cyc_pos hcok
      have hden := hcok.den
      have hln := hcok.len
      have hsk := hcok.slack
      have hib := interp_bd hcok hpb
      have hm1 : Bd ((p / c.den + 1) % c.heights.length) 0 (c.heights.length - 1) := ⟨Int.emod_nonneg _ (by omega), by have := Int.emod_lt_of_pos (p / c.den + 1) (show 0 < (c.heights.length : Int) by omega); omega⟩
      have hh0 := height_bd hcok (p / c.den).toNat
      have hh1 := height_bd hcok ((p / c.den + 1) % c.heights.length).toNat
      have hmb := mul_bd (B := 1000) hh0 (show Bd (c.den - p % c.den) 0 1000 by omega) (by decide)
      have hmb2 := mul_bd (B := 1000) hh1 (show Bd (p % c.den) 0 1000 by omega) (by decide)
      obtain ⟨bx, ox, csx, hax, hlenx, hcsx, hRx⟩ := hel1 (p / c.den).toNat (by omega)
      obtain ⟨rfl, _⟩ := hRx
      rw [show c.heights[(p / c.den).toNat] = c.heights.getD (p / c.den).toNat 0 from getD_at _ _ (by omega)] at hcsx
      obtain ⟨bu, ou, csu, hau, hlenu, hcsu, hRu⟩ := hel1 ((p / c.den + 1) % c.heights.length).toNat (by omega)
      obtain ⟨rfl, _⟩ := hRu
      rw [show c.heights[((p / c.den + 1) % c.heights.length).toNat] = c.heights.getD ((p / c.den + 1) % c.heights.length).toNat 0 from getD_at _ _ (by omega)] at hcsu
      refine skip ?_
      show Code.wp _ _ _ _ _
      refine seq ?_
      refine block ?_
      refine seq ?_
      refine region ?_
      refine sv (fa24_1 h3) ?_
      refine sv (yLdB rfl Try.isAgg22 (hS.at _) rfl) ?_
      refine sv (yMove h13) ?_
      refine sv (yIxa rfl ha rfl Try.runUnderlying22 Try.sizeOf46 (by omega) (by omega)) ?_
      refine sv (yLdA rfl Try.isAgg46 Try.sizeOf46 (hcs.ext hS.ext) rfl) ?_
      refine salloc hS Try.zeroValue46 rfl ?_; clear hS; intro b14 w hS
      refine sst hS rfl rfl Try.sizeOf46 rfl rfl rfl rfl ?_; clear hS; intro w hS
      refine nil ?_
      show Code.wp _ _ _ _ _
      refine seq ?_
      refine region ?_
      refine sv (fa46_1 rfl) ?_
      refine sv (yLdB rfl Try.isAgg44 (hS.at _) rfl) ?_
      refine sv (yLen rfl Try.underlying44) ?_
      refine sv (yAsg rfl) ?_
      refine nil ?_
      show Code.wp _ _ _ _ _
      refine seq ?_
      refine seq ?_
      refine region ?_
      refine sv (yMove rfl) ?_
      refine sv (yEql rfl rfl) ?_
      refine sv (yMove rfl) ?_
      refine sg rfl rfl rfl (fun g => (fa46_4 rfl)) (fun v67 g67 => ?_)
      refine sg rfl rfl rfl (fun g => (yLdB (g67.1 g) Try.isAgg3 (hS.at _) rfl)) (fun v68 g68 => ?_)
      refine sg rfl rfl rfl (fun g => (yLss (g68.1 g) rfl)) (fun v69 g69 => ?_)
      refine sv (yOr rfl rfl (fun hB => (g69.1 hB))) ?_
      refine sv (yMove rfl) ?_
      refine sg rfl rfl rfl (fun g => (fa46_4 rfl)) (fun v72 g72 => ?_)
      refine sg rfl rfl rfl (fun g => (yLdB (g72.1 g) Try.isAgg3 (hS.at _) rfl)) (fun v73 g73 => ?_)
      refine sg rfl rfl rfl (fun g => (yGtr (g73.1 g) rfl)) (fun v74 g74 => ?_)
      refine sv (yOr rfl rfl (fun hB => (g74.1 hB))) ?_
      refine sv (yMove rfl) ?_
      refine sg rfl rfl rfl (fun g => (yMove rfl)) (fun v77 g77 => ?_)
      refine sg rfl rfl rfl (fun g => (yGtr (g77.1 g) rfl)) (fun v78 g78 => ?_)
      refine sv (yOr rfl rfl (fun hB => (g78.1 hB))) ?_
      refine nil ?_
      show Code.wp _ _ _ _ _
      refine cond rfl (fun c79 => ?_) (fun c79 => ?_)
      ·
        exfalso
        simp only [Bool.and_eq_true, Bool.or_eq_true, Bool.and_eq_false_iff, Bool.or_eq_false_iff, decide_eq_true_eq, decide_eq_false_iff_not, Bool.not_eq_true, Bool.not_eq_false, Bool.not_not, Bool.not_eq_eq_eq_not, Bool.not_true, Bool.not_false, Bool.false_eq_true, Bool.true_eq_false, ne_eq, Decidable.not_not, not_false_eq_true, not_true_eq_false] at c79
        omega
      ·
        refine skip ?_
        show Code.wp _ _ _ _ _
        refine seq ?_
        refine region ?_
        refine sv (fa46_2 rfl) ?_
        refine sv (yLdB rfl Try.isAgg3 (hS.at _) rfl) ?_
        refine sv (fa46_3 rfl) ?_
        refine sv (yLdB rfl Try.isAgg3 (hS.at _) rfl) ?_
        refine sv (yMove h1) ?_
        refine sv (yMul rfl rfl (by have := mul_bd (a := tick) (b := c.step) (A := 200000) (B := 100000) ⟨by omega, by omega⟩ (by have := hcok.step; omega) (by decide); rw [Int.mul_comm] at this; exact ⟨by omega, by omega⟩)) ?_
        have hmt := mul_bd (a := tick) (b := c.step) (A := 200000) (B := 100000) ⟨by omega, by omega⟩ (by have := hcok.step; omega) (by decide)
        rw [Int.mul_comm] at hmt
        have hof := hcok.off
        have hnn : 0 ≤ c.step * tick := Int.mul_nonneg (by have := hcok.step; omega) htb.1
        refine sv (yAdd rfl rfl ⟨by omega, by omega⟩) ?_
        refine sv (fa46_4 rfl) ?_
        refine sv (yLdB rfl Try.isAgg3 (hS.at _) rfl) ?_
        refine sv (yMove rfl) ?_
        refine sv (yMul rfl rfl ⟨by omega, by omega⟩) ?_
        refine sv (Y.to (yRemP rfl rfl (by omega) (by omega)) (show Value.int .i64 ((c.off + c.step * tick) % (c.den * c.heights.length)) = .int .i64 p by rw [← hpe]; rfl)) ?_
        refine sv (yAsg rfl) ?_
        refine nil ?_
        show Code.wp _ _ _ _ _
        refine seq ?_
        refine seq ?_
        refine region ?_
        refine sv (yMove rfl) ?_
        refine sv (yLss rfl rfl) ?_
        refine nil ?_
        show Code.wp _ _ _ _ _
        refine cond rfl (fun c93 => ?_) (fun c93 => ?_)
        ·
          exact absurd (of_decide_eq_true c93) (by omega)
        ·
          refine skip ?_
          show Code.wp _ _ _ _ _
          refine seq ?_
          refine region_draw mixed (by kernel_rfl) hS ?_
          refine qv (fun w hS => (fa46_1 rfl)) ?_
          refine qv (fun w hS => (yLdB rfl Try.isAgg44 (hS.at _) rfl)) ?_
          refine qv (fun w hS => (yMove rfl)) ?_
          refine qv (fun w hS => (fa46_4 rfl)) ?_
          refine qv (fun w hS => (yLdB rfl Try.isAgg3 (hS.at _) rfl)) ?_
          refine qv (fun w hS => (yQuoP rfl rfl ⟨by omega, by omega⟩ (by omega))) ?_
          refine qv (fun w hS => (yIxa rfl hax rfl Try.runUnderlying44 Try.sizeOf3 (by omega) (by omega))) ?_
          refine qv (fun w hS => (yLd rfl Try.isAgg3 ((hcsx.ext hS.ext).one))) ?_
          refine qv (fun w hS => (fa46_4 rfl)) ?_
          refine qv (fun w hS => (yLdB rfl Try.isAgg3 (hS.at _) rfl)) ?_
          refine qv (fun w hS => (yMove rfl)) ?_
          refine qv (fun w hS => (fa46_4 rfl)) ?_
          refine qv (fun w hS => (yLdB rfl Try.isAgg3 (hS.at _) rfl)) ?_
          refine qv (fun w hS => (yRemP rfl rfl (by omega) (by omega))) ?_
          refine qv (fun w hS => (ySub rfl rfl ⟨by omega, by omega⟩)) ?_
          refine qv (fun w hS => (yMul rfl rfl ⟨by omega, by omega⟩)) ?_
          refine qv (fun w hS => (fa46_1 rfl)) ?_
          refine qv (fun w hS => (yLdB rfl Try.isAgg44 (hS.at _) rfl)) ?_
          refine qv (fun w hS => (yMove rfl)) ?_
          refine qv (fun w hS => (fa46_4 rfl)) ?_
          refine qv (fun w hS => (yLdB rfl Try.isAgg3 (hS.at _) rfl)) ?_
          refine qv (fun w hS => (yQuoP rfl rfl ⟨by omega, by omega⟩ (by omega))) ?_
          refine qv (fun w hS => (yAdd rfl rfl ⟨by omega, by omega⟩)) ?_
          refine qv (fun w hS => (yMove rfl)) ?_
          refine qv (fun w hS => (yRemP rfl rfl (by omega) (by omega))) ?_
          refine qv (fun w hS => (yIxa rfl hau rfl Try.runUnderlying44 Try.sizeOf3 (by omega) (by omega))) ?_
          refine qv (fun w hS => (yLd rfl Try.isAgg3 ((hcsu.ext hS.ext).one))) ?_
          refine qv (fun w hS => (yMove rfl)) ?_
          refine qv (fun w hS => (fa46_4 rfl)) ?_
          refine qv (fun w hS => (yLdB rfl Try.isAgg3 (hS.at _) rfl)) ?_
          refine qv (fun w hS => (yRemP rfl rfl (by omega) (by omega))) ?_
          refine qv (fun w hS => (yMul rfl rfl ⟨by omega, by omega⟩)) ?_
          refine qv (fun w hS => (Y.to (yAdd rfl rfl ⟨by omega, by omega⟩) (show Value.int .i64 _ = .int .i64 (interp c p) from rfl))) ?_
          refine qv (fun w hS => (yAsg rfl)) ?_
          clear hS; refine qnil (fun w hS => ?_)
          show Code.wp _ _ _ _ _
          refine seq ?_
          refine cutK (fun f => f 1 = .int .i64 tick ∧ f 2 = .slice ad ds.length capd ∧ f 3 = .pointer (some ⟨b3, 0, none⟩) ∧ f 7 = .pointer (some ⟨b7, 0, none⟩) ∧ f 11 = .int .i64 sum ∧ f 12 = .pointer (some ⟨b12, 0, none⟩) ∧ f 13 = .int .i64 (k : Int) ∧ f 14 = .pointer (some ⟨b14, 0, none⟩) ∧ f 17 = .int .i64 (interp c p) ∧ True) ⟨h1, h2, h3, h7, h11, h12, h13, rfl, rfl, trivial⟩ ?_
          rintro f ⟨h1, h2, h3, h7, h11, h12, h13, h14, h17, -⟩
          refine region ?_
          refine sv (yAsg rfl) ?_
          refine nil ?_
          show Code.wp _ _ _ _ _
          refine seq ?_
          refine seq ?_
          refine region ?_
          refine sv (yMove h13) ?_
          refine sv (yMove h2) ?_
          refine sv (yLen rfl Try.underlying42) ?_
          refine sv (yLss rfl rfl) ?_
          refine nil ?_
          show Code.wp _ _ _ _ _
          refine cond rfl (fun c130 => ?_) (fun c130 => ?_)
          ·
            simp only [Bool.and_eq_true, Bool.or_eq_true, Bool.and_eq_false_iff, Bool.or_eq_false_iff, decide_eq_true_eq, decide_eq_false_iff_not, Bool.not_eq_true, Bool.not_eq_false, Bool.not_not, Bool.not_eq_eq_eq_not, Bool.not_true, Bool.not_false, Bool.false_eq_true, Bool.true_eq_false, ne_eq, Decidable.not_not, not_false_eq_true, not_true_eq_false] at c130
            obtain ⟨bz, oz, csz, haz, hlenz, hcsz, hRz⟩ := held k (by omega)
            obtain ⟨rfl, he1, he2⟩ := hRz
            generalize ds[k] = e at hcsz he1 he2
            have hmd := mul_bd (a := max e (-127)) (b := c.slack) (A := 127) (B := 1000) ⟨by omega, by omega⟩ ⟨by omega, by omega⟩ (by decide)
            rw [Int.mul_comm] at hmd
            obtain ⟨D, hD⟩ : ∃ D, D = (c.slack * max e (-127)).tdiv 127 := ⟨_, rfl⟩
            have hDb : Bd D (-1000000000000) 1000000000000 := by rw [hD]; exact tdiv_bd (by decide) ⟨by omega, by omega⟩
            refine region_draw mixed (by kernel_rfl) hS ?_
            refine qv (fun w hS => (fa46_5 h14)) ?_
            refine qv (fun w hS => (yLdB rfl Try.isAgg3 (hS.at _) rfl)) ?_
            refine qv (fun w hS => (yMove h2)) ?_
            refine qv (fun w hS => (yMove h13)) ?_
            refine qv (fun w hS => (yIxa rfl haz rfl Try.runUnderlying42 Try.sizeOf47 (by omega) (by omega))) ?_
            refine qv (fun w hS => (yLd rfl Try.isAgg47 ((hcsz.ext hS.ext).one))) ?_
            refine qv (fun w hS => (yToI rfl Try.underlying47 Try.underlying3 ⟨by omega, by omega⟩)) ?_
            refine qv (fun w hS => (yMax rfl rfl)) ?_
            refine qv (fun w hS => (yMul rfl rfl ⟨by omega, by omega⟩)) ?_
            refine qv (fun w hS => (Y.to (yQuo rfl rfl (by decide) ⟨by omega, by omega⟩) (show Value.int .i64 _ = .int .i64 D by rw [hD]))) ?_
            refine qv (fun w hS => (yAsg rfl)) ?_
            clear hS; refine qnil (fun w hS => ?_)
            show Code.wp _ _ _ _ _
            refine seq ?_
            refine region ?_
            refine sv (yMove h17) ?_
            refine sv (fa46_4 h14) ?_
            refine sv (yLdB rfl Try.isAgg3 (hS.at _) rfl) ?_
            have hqd := tdiv_bd (a := interp c p) (b := c.den) (by omega) ⟨by omega, by omega⟩
            obtain ⟨X, hX⟩ : ∃ X, X = (interp c p).tdiv c.den + D := ⟨_, rfl⟩
            have hXb : Bd X (-2000000000000) 2000000000000 := by omega
            have hXm := mul_bd (b := c.den) (A := 2000000000000) (B := 1000) hXb ⟨by omega, by omega⟩ (by decide)
            have hsd := mul_bd (a := c.slack) (b := c.den) (A := 1000) (B := 1000) ⟨by omega, by omega⟩ ⟨by omega, by omega⟩ (by decide)
            refine sv (yQuo rfl rfl (by omega) ⟨by omega, by omega⟩) ?_
            refine sv (yMove rfl) ?_
            refine sv (Y.to (yAdd rfl rfl ⟨by omega, by omega⟩) (show Value.int .i64 _ = .int .i64 X by rw [hX, hD])) ?_
            refine sv (yAsg rfl) ?_
            refine nil ?_
            show Code.wp _ _ _ _ _
            refine seq ?_
            refine seq ?_
            refine region ?_
            refine sv (yMove rfl) ?_
            refine sv (fa46_4 h14) ?_
            refine sv (yLdB rfl Try.isAgg3 (hS.at _) rfl) ?_
            refine sv (yMul rfl rfl ⟨by omega, by omega⟩) ?_
            refine sv (yMove h17) ?_
            refine sv (ySub rfl rfl ⟨by omega, by omega⟩) ?_
            refine sv (fa46_5 h14) ?_
            refine sv (yLdB rfl Try.isAgg3 (hS.at _) rfl) ?_
            refine sv (fa46_4 h14) ?_
            refine sv (yLdB rfl Try.isAgg3 (hS.at _) rfl) ?_
            refine sv (yMul rfl rfl ⟨by omega, by omega⟩) ?_
            refine sv (yGtr rfl rfl) ?_
            refine sv (yMove rfl) ?_
            refine sg rfl rfl rfl (fun g => (yMove h17)) (fun v160 g160 => ?_)
            refine sg rfl rfl rfl (fun g => (yMove rfl)) (fun v161 g161 => ?_)
            refine sg rfl rfl rfl (fun g => (fa46_4 h14)) (fun v162 g162 => ?_)
            refine sg rfl rfl rfl (fun g => (yLdB (g162.1 g) Try.isAgg3 (hS.at _) rfl)) (fun v163 g163 => ?_)
            refine sg rfl rfl rfl (fun g => (yMul (g161.1 g) (g163.1 g) ⟨by omega, by omega⟩)) (fun v164 g164 => ?_)
            refine sg rfl rfl rfl (fun g => (ySub (g160.1 g) (g164.1 g) ⟨by omega, by omega⟩)) (fun v165 g165 => ?_)
            refine sg rfl rfl rfl (fun g => (fa46_5 h14)) (fun v166 g166 => ?_)
            refine sg rfl rfl rfl (fun g => (yLdB (g166.1 g) Try.isAgg3 (hS.at _) rfl)) (fun v167 g167 => ?_)
            refine sg rfl rfl rfl (fun g => (fa46_4 h14)) (fun v168 g168 => ?_)
            refine sg rfl rfl rfl (fun g => (yLdB (g168.1 g) Try.isAgg3 (hS.at _) rfl)) (fun v169 g169 => ?_)
            refine sg rfl rfl rfl (fun g => (yMul (g167.1 g) (g169.1 g) ⟨by omega, by omega⟩)) (fun v170 g170 => ?_)
            refine sg rfl rfl rfl (fun g => (yGtr (g165.1 g) (g170.1 g))) (fun v171 g171 => ?_)
            refine sv (yOr rfl rfl (fun hB => (g171.1 hB))) ?_
            refine nil ?_
            show Code.wp _ _ _ _ _
            refine cond rfl (fun c172 => ?_) (fun c172 => ?_)
            ·
              simp only [Bool.and_eq_true, Bool.or_eq_true, Bool.and_eq_false_iff, Bool.or_eq_false_iff, decide_eq_true_eq, decide_eq_false_iff_not, Bool.not_eq_true, Bool.not_eq_false, Bool.not_not, Bool.not_eq_eq_eq_not, Bool.not_true, Bool.not_false, Bool.false_eq_true, Bool.true_eq_false, ne_eq, Decidable.not_not, not_false_eq_true, not_true_eq_false] at c172
              refine seq ?_
              refine region ?_
              refine sv (yMove h17) ?_
              refine sv (fa46_4 h14) ?_
              refine sv (yLdB rfl Try.isAgg3 (hS.at _) rfl) ?_
              refine sv (yQuo rfl rfl (by omega) ⟨by omega, by omega⟩) ?_
              refine sv (yAsg rfl) ?_
              refine nil ?_
              show Code.wp _ _ _ _ _
              refine seq ?_
              refine region ?_
              refine sv (yMove h17) ?_
              refine sv (fa46_4 h14) ?_
              refine sv (yLdB rfl Try.isAgg3 (hS.at _) rfl) ?_
              refine sv (yRem rfl rfl (by omega)) ?_
              refine sv (yNeq rfl rfl) ?_
              refine sv (yMove rfl) ?_
              refine sg rfl rfl rfl (fun g => (fa46_5 h14)) (fun v183 g183 => ?_)
              refine sg rfl rfl rfl (fun g => (yLdB (g183.1 g) Try.isAgg3 (hS.at _) rfl)) (fun v184 g184 => ?_)
              refine sg rfl rfl rfl (fun g => (yEql (g184.1 g) rfl)) (fun v185 g185 => ?_)
              refine sv (yAnd rfl (fun hB => (g185.1 hB)) rfl) ?_
              refine nil ?_
              show Code.wp _ _ _ _ _
              refine cond rfl (fun c186 => ?_) (fun c186 => ?_)
              ·
                simp only [Bool.and_eq_true, Bool.or_eq_true, Bool.and_eq_false_iff, Bool.or_eq_false_iff, decide_eq_true_eq, decide_eq_false_iff_not, Bool.not_eq_true, Bool.not_eq_false, Bool.not_not, Bool.not_eq_eq_eq_not, Bool.not_true, Bool.not_false, Bool.false_eq_true, Bool.true_eq_false, ne_eq, Decidable.not_not, not_false_eq_true, not_true_eq_false] at c186
                refine seq ?_
                refine region ?_
                refine scall Try.call23 .nil c_Awake ?_
                rintro _ w ⟨rfl, hE⟩; replace hS := hS.step hE; clear hE
                refine sv (yAsg rfl) ?_
                refine nil ?_
                show Code.wp _ _ _ _ _
                refine wp_ret (thenR (blockR (thenR (thenR (blockR (thenR ?_))))))
                exact retV (res1 rfl rfl) hS.ext
              ·
                simp only [Bool.and_eq_true, Bool.or_eq_true, Bool.and_eq_false_iff, Bool.or_eq_false_iff, decide_eq_true_eq, decide_eq_false_iff_not, Bool.not_eq_true, Bool.not_eq_false, Bool.not_not, Bool.not_eq_eq_eq_not, Bool.not_true, Bool.not_false, Bool.false_eq_true, Bool.true_eq_false, ne_eq, Decidable.not_not, not_false_eq_true, not_true_eq_false] at c186
                have hx := between_B (s := c.slack) (h := interp c p) (d := c.den) (by omega) (by omega)
                have hsum2 := sum_take hx0 hsum (by rw [hpe]; exact hx)
                refine skip ?_
                show Code.wp _ _ _ _ _
                refine seq ?_
                refine cutK (fun f => f 1 = .int .i64 tick ∧ f 2 = .slice ad ds.length capd ∧ f 3 = .pointer (some ⟨b3, 0, none⟩) ∧ f 7 = .pointer (some ⟨b7, 0, none⟩) ∧ f 11 = .int .i64 sum ∧ f 12 = .pointer (some ⟨b12, 0, none⟩) ∧ f 13 = .int .i64 (k : Int) ∧ f 14 = .pointer (some ⟨b14, 0, none⟩) ∧ f 19 = .int .i64 ((interp c p).tdiv c.den) ∧ True) ⟨h1, h2, h3, h7, h11, h12, h13, h14, rfl, trivial⟩ ?_
                rintro f ⟨h1, h2, h3, h7, h11, h12, h13, h14, h19, -⟩
                refine region ?_
                refine sv (yMove h11) ?_
                refine sv (yMove h19) ?_
                refine sv (yAdd rfl rfl ⟨by omega, by omega⟩) ?_
                refine sv (yAsg rfl) ?_
                refine nil ?_
                show Code.wp _ _ _ _ _
                refine seq ?_
                refine region ?_
                refine sv (fa46_5 h14) ?_
                refine sv (yLdB rfl Try.isAgg3 (hS.at _) rfl) ?_
                refine sv (yAdd rfl rfl ⟨by omega, by omega⟩) ?_
                refine sv (yMove h13) ?_
                refine sv (yAdd rfl rfl ⟨by omega, by omega⟩) ?_
                refine sv (yMin rfl rfl) ?_
                refine sv (fa46_5 h14) ?_
                refine sst hS rfl rfl Try.sizeOf3 rfl rfl rfl rfl ?_; clear hS; intro w hS
                refine nil ?_
                show Code.wp _ _ _ _ _
                refine region ?_
                refine sv (fa24_1 h12) ?_
                refine sv (yLdB rfl Try.isAgg22 (hS.at _) rfl) ?_
                refine sv (yLdBA h14 Try.isAgg46 Try.sizeOf46 (hS.at _) rfl rfl) ?_
                refine sbslice hS Try.underlying22 Try.sizeOf46 rfl Try.zeroValue46 rfl (.cons rfl rfl .nil) rfl ?_; clear hS; intro b201 w hS
                refine sapp (bytes := 72) (size := 6) (v := v) (m := 1) hS rfl rfl Try.underlying22 ti46 rfl rfl rfl rfl (by decide) (blk_cells (hS.at _)) rfl rfl (by omega) (by omega) ?_; clear hS; intro v202 w hS
                refine sv (fa24_1 h12) ?_
                obtain ⟨gr, capr, rfl, _, _, _⟩ := row_some (hS.row v202) (Nat.succ_pos _)
                refine sst hS rfl rfl Try.sizeOf22 rfl rfl rfl rfl ?_; clear hS; intro w hS
                refine nil ?_
                show Code.wp _ _ _ _ _
                refine region ?_
                refine sv (yMove h13) ?_
                refine sv (yAdd rfl rfl ⟨by omega, by omega⟩) ?_
                refine sv (yAsg rfl) ?_
                refine nil ?_
                exact ⟨_, _, rfl, ⟨k + 1, _, _, css ++ [[.string c.name, .slice a1 c.heights.length cap1, .int .i64 c.off, .int .i64 c.step, .int .i64 c.den, .int .i64 (min 1000 (c.slack + 1 + (k : Int)))]], h1, h2, h3, h7, rfl, h12, rfl, (by rw [flat_snoc]; exact hS.sub (.cons _ (.cons _ (List.Sublist.refl _)))), (by omega), (by rw [take_snoc hx0, wides_snoc, show 0 + (t.consts.take k).length = k by simp; omega]; exact hrows.snoc rfl ⟨_, rfl, hn1, hsl1, hi1, hi2, hi3, show I64 (min 1000 (c.slack + 1 + (k : Int))) from ⟨by omega, by omega⟩⟩), (hsum2), rfl⟩, by omega⟩
            ·
              simp only [Bool.and_eq_true, Bool.or_eq_true, Bool.and_eq_false_iff, Bool.or_eq_false_iff, decide_eq_true_eq, decide_eq_false_iff_not, Bool.not_eq_true, Bool.not_eq_false, Bool.not_not, Bool.not_eq_eq_eq_not, Bool.not_true, Bool.not_false, Bool.false_eq_true, Bool.true_eq_false, ne_eq, Decidable.not_not, not_false_eq_true, not_true_eq_false] at c172
              have hx := between_A (s := c.slack) (x := X) (h := interp c p) (d := c.den) (by omega) (by omega) (by omega)
              have hsum2 := sum_take hx0 hsum (by rw [hpe]; exact hx)
              refine skip ?_
              show Code.wp _ _ _ _ _
              refine seq ?_
              refine cutK (fun f => f 1 = .int .i64 tick ∧ f 2 = .slice ad ds.length capd ∧ f 3 = .pointer (some ⟨b3, 0, none⟩) ∧ f 7 = .pointer (some ⟨b7, 0, none⟩) ∧ f 11 = .int .i64 sum ∧ f 12 = .pointer (some ⟨b12, 0, none⟩) ∧ f 13 = .int .i64 (k : Int) ∧ f 14 = .pointer (some ⟨b14, 0, none⟩) ∧ f 19 = .int .i64 X ∧ True) ⟨h1, h2, h3, h7, h11, h12, h13, h14, rfl, trivial⟩ ?_
              rintro f ⟨h1, h2, h3, h7, h11, h12, h13, h14, h19, -⟩
              refine region ?_
              refine sv (yMove h11) ?_
              refine sv (yMove h19) ?_
              refine sv (yAdd rfl rfl ⟨by omega, by omega⟩) ?_
              refine sv (yAsg rfl) ?_
              refine nil ?_
              show Code.wp _ _ _ _ _
              refine seq ?_
              refine region ?_
              refine sv (fa46_5 h14) ?_
              refine sv (yLdB rfl Try.isAgg3 (hS.at _) rfl) ?_
              refine sv (yAdd rfl rfl ⟨by omega, by omega⟩) ?_
              refine sv (yMove h13) ?_
              refine sv (yAdd rfl rfl ⟨by omega, by omega⟩) ?_
              refine sv (yMin rfl rfl) ?_
              refine sv (fa46_5 h14) ?_
              refine sst hS rfl rfl Try.sizeOf3 rfl rfl rfl rfl ?_; clear hS; intro w hS
              refine nil ?_
              show Code.wp _ _ _ _ _
              refine region ?_
              refine sv (fa24_1 h12) ?_
              refine sv (yLdB rfl Try.isAgg22 (hS.at _) rfl) ?_
              refine sv (yLdBA h14 Try.isAgg46 Try.sizeOf46 (hS.at _) rfl rfl) ?_
              refine sbslice hS Try.underlying22 Try.sizeOf46 rfl Try.zeroValue46 rfl (.cons rfl rfl .nil) rfl ?_; clear hS; intro b201 w hS
              refine sapp (bytes := 72) (size := 6) (v := v) (m := 1) hS rfl rfl Try.underlying22 ti46 rfl rfl rfl rfl (by decide) (blk_cells (hS.at _)) rfl rfl (by omega) (by omega) ?_; clear hS; intro v202 w hS
              refine sv (fa24_1 h12) ?_
              obtain ⟨gr, capr, rfl, _, _, _⟩ := row_some (hS.row v202) (Nat.succ_pos _)
              refine sst hS rfl rfl Try.sizeOf22 rfl rfl rfl rfl ?_; clear hS; intro w hS
              refine nil ?_
              show Code.wp _ _ _ _ _
              refine region ?_
              refine sv (yMove h13) ?_
              refine sv (yAdd rfl rfl ⟨by omega, by omega⟩) ?_
              refine sv (yAsg rfl) ?_
              refine nil ?_
              exact ⟨_, _, rfl, ⟨k + 1, _, _, css ++ [[.string c.name, .slice a1 c.heights.length cap1, .int .i64 c.off, .int .i64 c.step, .int .i64 c.den, .int .i64 (min 1000 (c.slack + 1 + (k : Int)))]], h1, h2, h3, h7, rfl, h12, rfl, (by rw [flat_snoc]; exact hS.sub (.cons _ (.cons _ (List.Sublist.refl _)))), (by omega), (by rw [take_snoc hx0, wides_snoc, show 0 + (t.consts.take k).length = k by simp; omega]; exact hrows.snoc rfl ⟨_, rfl, hn1, hsl1, hi1, hi2, hi3, show I64 (min 1000 (c.slack + 1 + (k : Int))) from ⟨by omega, by omega⟩⟩), (hsum2), rfl⟩, by omega⟩
          ·
            simp only [Bool.and_eq_true, Bool.or_eq_true, Bool.and_eq_false_iff, Bool.or_eq_false_iff, decide_eq_true_eq, decide_eq_false_iff_not, Bool.not_eq_true, Bool.not_eq_false, Bool.not_not, Bool.not_eq_eq_eq_not, Bool.not_true, Bool.not_false, Bool.false_eq_true, Bool.true_eq_false, ne_eq, Decidable.not_not, not_false_eq_true, not_true_eq_false] at c130
            obtain ⟨D, hD⟩ : ∃ D : Int, D = 0 := ⟨_, rfl⟩
            have hDb : Bd D (-1000000000000) 1000000000000 := by rw [hD]; exact ⟨by decide, by decide⟩
            refine skip ?_
            show Code.wp _ _ _ _ _
            refine seq ?_
            refine region ?_
            refine sv (yMove h17) ?_
            refine sv (fa46_4 h14) ?_
            refine sv (yLdB rfl Try.isAgg3 (hS.at _) rfl) ?_
            have hqd := tdiv_bd (a := interp c p) (b := c.den) (by omega) ⟨by omega, by omega⟩
            obtain ⟨X, hX⟩ : ∃ X, X = (interp c p).tdiv c.den + D := ⟨_, rfl⟩
            have hXb : Bd X (-2000000000000) 2000000000000 := by omega
            have hXm := mul_bd (b := c.den) (A := 2000000000000) (B := 1000) hXb ⟨by omega, by omega⟩ (by decide)
            have hsd := mul_bd (a := c.slack) (b := c.den) (A := 1000) (B := 1000) ⟨by omega, by omega⟩ ⟨by omega, by omega⟩ (by decide)
            refine sv (yQuo rfl rfl (by omega) ⟨by omega, by omega⟩) ?_
            refine sv (yMove rfl) ?_
            refine sv (Y.to (yAdd rfl rfl ⟨by omega, by omega⟩) (show Value.int .i64 _ = .int .i64 X by rw [hX, hD])) ?_
            refine sv (yAsg rfl) ?_
            refine nil ?_
            show Code.wp _ _ _ _ _
            refine seq ?_
            refine seq ?_
            refine region ?_
            refine sv (yMove rfl) ?_
            refine sv (fa46_4 h14) ?_
            refine sv (yLdB rfl Try.isAgg3 (hS.at _) rfl) ?_
            refine sv (yMul rfl rfl ⟨by omega, by omega⟩) ?_
            refine sv (yMove h17) ?_
            refine sv (ySub rfl rfl ⟨by omega, by omega⟩) ?_
            refine sv (fa46_5 h14) ?_
            refine sv (yLdB rfl Try.isAgg3 (hS.at _) rfl) ?_
            refine sv (fa46_4 h14) ?_
            refine sv (yLdB rfl Try.isAgg3 (hS.at _) rfl) ?_
            refine sv (yMul rfl rfl ⟨by omega, by omega⟩) ?_
            refine sv (yGtr rfl rfl) ?_
            refine sv (yMove rfl) ?_
            refine sg rfl rfl rfl (fun g => (yMove h17)) (fun v160 g160 => ?_)
            refine sg rfl rfl rfl (fun g => (yMove rfl)) (fun v161 g161 => ?_)
            refine sg rfl rfl rfl (fun g => (fa46_4 h14)) (fun v162 g162 => ?_)
            refine sg rfl rfl rfl (fun g => (yLdB (g162.1 g) Try.isAgg3 (hS.at _) rfl)) (fun v163 g163 => ?_)
            refine sg rfl rfl rfl (fun g => (yMul (g161.1 g) (g163.1 g) ⟨by omega, by omega⟩)) (fun v164 g164 => ?_)
            refine sg rfl rfl rfl (fun g => (ySub (g160.1 g) (g164.1 g) ⟨by omega, by omega⟩)) (fun v165 g165 => ?_)
            refine sg rfl rfl rfl (fun g => (fa46_5 h14)) (fun v166 g166 => ?_)
            refine sg rfl rfl rfl (fun g => (yLdB (g166.1 g) Try.isAgg3 (hS.at _) rfl)) (fun v167 g167 => ?_)
            refine sg rfl rfl rfl (fun g => (fa46_4 h14)) (fun v168 g168 => ?_)
            refine sg rfl rfl rfl (fun g => (yLdB (g168.1 g) Try.isAgg3 (hS.at _) rfl)) (fun v169 g169 => ?_)
            refine sg rfl rfl rfl (fun g => (yMul (g167.1 g) (g169.1 g) ⟨by omega, by omega⟩)) (fun v170 g170 => ?_)
            refine sg rfl rfl rfl (fun g => (yGtr (g165.1 g) (g170.1 g))) (fun v171 g171 => ?_)
            refine sv (yOr rfl rfl (fun hB => (g171.1 hB))) ?_
            refine nil ?_
            show Code.wp _ _ _ _ _
            refine cond rfl (fun c172 => ?_) (fun c172 => ?_)
            ·
              simp only [Bool.and_eq_true, Bool.or_eq_true, Bool.and_eq_false_iff, Bool.or_eq_false_iff, decide_eq_true_eq, decide_eq_false_iff_not, Bool.not_eq_true, Bool.not_eq_false, Bool.not_not, Bool.not_eq_eq_eq_not, Bool.not_true, Bool.not_false, Bool.false_eq_true, Bool.true_eq_false, ne_eq, Decidable.not_not, not_false_eq_true, not_true_eq_false] at c172
              refine seq ?_
              refine region ?_
              refine sv (yMove h17) ?_
              refine sv (fa46_4 h14) ?_
              refine sv (yLdB rfl Try.isAgg3 (hS.at _) rfl) ?_
              refine sv (yQuo rfl rfl (by omega) ⟨by omega, by omega⟩) ?_
              refine sv (yAsg rfl) ?_
              refine nil ?_
              show Code.wp _ _ _ _ _
              refine seq ?_
              refine region ?_
              refine sv (yMove h17) ?_
              refine sv (fa46_4 h14) ?_
              refine sv (yLdB rfl Try.isAgg3 (hS.at _) rfl) ?_
              refine sv (yRem rfl rfl (by omega)) ?_
              refine sv (yNeq rfl rfl) ?_
              refine sv (yMove rfl) ?_
              refine sg rfl rfl rfl (fun g => (fa46_5 h14)) (fun v183 g183 => ?_)
              refine sg rfl rfl rfl (fun g => (yLdB (g183.1 g) Try.isAgg3 (hS.at _) rfl)) (fun v184 g184 => ?_)
              refine sg rfl rfl rfl (fun g => (yEql (g184.1 g) rfl)) (fun v185 g185 => ?_)
              refine sv (yAnd rfl (fun hB => (g185.1 hB)) rfl) ?_
              refine nil ?_
              show Code.wp _ _ _ _ _
              refine cond rfl (fun c186 => ?_) (fun c186 => ?_)
              ·
                simp only [Bool.and_eq_true, Bool.or_eq_true, Bool.and_eq_false_iff, Bool.or_eq_false_iff, decide_eq_true_eq, decide_eq_false_iff_not, Bool.not_eq_true, Bool.not_eq_false, Bool.not_not, Bool.not_eq_eq_eq_not, Bool.not_true, Bool.not_false, Bool.false_eq_true, Bool.true_eq_false, ne_eq, Decidable.not_not, not_false_eq_true, not_true_eq_false] at c186
                refine seq ?_
                refine region ?_
                refine scall Try.call23 .nil c_Awake ?_
                rintro _ w ⟨rfl, hE⟩; replace hS := hS.step hE; clear hE
                refine sv (yAsg rfl) ?_
                refine nil ?_
                show Code.wp _ _ _ _ _
                refine wp_ret (thenR (blockR (thenR (thenR (blockR (thenR ?_))))))
                exact retV (res1 rfl rfl) hS.ext
              ·
                simp only [Bool.and_eq_true, Bool.or_eq_true, Bool.and_eq_false_iff, Bool.or_eq_false_iff, decide_eq_true_eq, decide_eq_false_iff_not, Bool.not_eq_true, Bool.not_eq_false, Bool.not_not, Bool.not_eq_eq_eq_not, Bool.not_true, Bool.not_false, Bool.false_eq_true, Bool.true_eq_false, ne_eq, Decidable.not_not, not_false_eq_true, not_true_eq_false] at c186
                have hx := between_B (s := c.slack) (h := interp c p) (d := c.den) (by omega) (by omega)
                have hsum2 := sum_take hx0 hsum (by rw [hpe]; exact hx)
                refine skip ?_
                show Code.wp _ _ _ _ _
                refine seq ?_
                refine cutK (fun f => f 1 = .int .i64 tick ∧ f 2 = .slice ad ds.length capd ∧ f 3 = .pointer (some ⟨b3, 0, none⟩) ∧ f 7 = .pointer (some ⟨b7, 0, none⟩) ∧ f 11 = .int .i64 sum ∧ f 12 = .pointer (some ⟨b12, 0, none⟩) ∧ f 13 = .int .i64 (k : Int) ∧ f 14 = .pointer (some ⟨b14, 0, none⟩) ∧ f 19 = .int .i64 ((interp c p).tdiv c.den) ∧ True) ⟨h1, h2, h3, h7, h11, h12, h13, h14, rfl, trivial⟩ ?_
                rintro f ⟨h1, h2, h3, h7, h11, h12, h13, h14, h19, -⟩
                refine region ?_
                refine sv (yMove h11) ?_
                refine sv (yMove h19) ?_
                refine sv (yAdd rfl rfl ⟨by omega, by omega⟩) ?_
                refine sv (yAsg rfl) ?_
                refine nil ?_
                show Code.wp _ _ _ _ _
                refine seq ?_
                refine region ?_
                refine sv (fa46_5 h14) ?_
                refine sv (yLdB rfl Try.isAgg3 (hS.at _) rfl) ?_
                refine sv (yAdd rfl rfl ⟨by omega, by omega⟩) ?_
                refine sv (yMove h13) ?_
                refine sv (yAdd rfl rfl ⟨by omega, by omega⟩) ?_
                refine sv (yMin rfl rfl) ?_
                refine sv (fa46_5 h14) ?_
                refine sst hS rfl rfl Try.sizeOf3 rfl rfl rfl rfl ?_; clear hS; intro w hS
                refine nil ?_
                show Code.wp _ _ _ _ _
                refine region ?_
                refine sv (fa24_1 h12) ?_
                refine sv (yLdB rfl Try.isAgg22 (hS.at _) rfl) ?_
                refine sv (yLdBA h14 Try.isAgg46 Try.sizeOf46 (hS.at _) rfl rfl) ?_
                refine sbslice hS Try.underlying22 Try.sizeOf46 rfl Try.zeroValue46 rfl (.cons rfl rfl .nil) rfl ?_; clear hS; intro b201 w hS
                refine sapp (bytes := 72) (size := 6) (v := v) (m := 1) hS rfl rfl Try.underlying22 ti46 rfl rfl rfl rfl (by decide) (blk_cells (hS.at _)) rfl rfl (by omega) (by omega) ?_; clear hS; intro v202 w hS
                refine sv (fa24_1 h12) ?_
                obtain ⟨gr, capr, rfl, _, _, _⟩ := row_some (hS.row v202) (Nat.succ_pos _)
                refine sst hS rfl rfl Try.sizeOf22 rfl rfl rfl rfl ?_; clear hS; intro w hS
                refine nil ?_
                show Code.wp _ _ _ _ _
                refine region ?_
                refine sv (yMove h13) ?_
                refine sv (yAdd rfl rfl ⟨by omega, by omega⟩) ?_
                refine sv (yAsg rfl) ?_
                refine nil ?_
                exact ⟨_, _, rfl, ⟨k + 1, _, _, css ++ [[.string c.name, .slice a1 c.heights.length cap1, .int .i64 c.off, .int .i64 c.step, .int .i64 c.den, .int .i64 (min 1000 (c.slack + 1 + (k : Int)))]], h1, h2, h3, h7, rfl, h12, rfl, (by rw [flat_snoc]; exact hS.sub (.cons _ (.cons _ (List.Sublist.refl _)))), (by omega), (by rw [take_snoc hx0, wides_snoc, show 0 + (t.consts.take k).length = k by simp; omega]; exact hrows.snoc rfl ⟨_, rfl, hn1, hsl1, hi1, hi2, hi3, show I64 (min 1000 (c.slack + 1 + (k : Int))) from ⟨by omega, by omega⟩⟩), (hsum2), rfl⟩, by omega⟩
            ·
              simp only [Bool.and_eq_true, Bool.or_eq_true, Bool.and_eq_false_iff, Bool.or_eq_false_iff, decide_eq_true_eq, decide_eq_false_iff_not, Bool.not_eq_true, Bool.not_eq_false, Bool.not_not, Bool.not_eq_eq_eq_not, Bool.not_true, Bool.not_false, Bool.false_eq_true, Bool.true_eq_false, ne_eq, Decidable.not_not, not_false_eq_true, not_true_eq_false] at c172
              have hx := between_A (s := c.slack) (x := X) (h := interp c p) (d := c.den) (by omega) (by omega) (by omega)
              have hsum2 := sum_take hx0 hsum (by rw [hpe]; exact hx)
              refine skip ?_
              show Code.wp _ _ _ _ _
              refine seq ?_
              refine cutK (fun f => f 1 = .int .i64 tick ∧ f 2 = .slice ad ds.length capd ∧ f 3 = .pointer (some ⟨b3, 0, none⟩) ∧ f 7 = .pointer (some ⟨b7, 0, none⟩) ∧ f 11 = .int .i64 sum ∧ f 12 = .pointer (some ⟨b12, 0, none⟩) ∧ f 13 = .int .i64 (k : Int) ∧ f 14 = .pointer (some ⟨b14, 0, none⟩) ∧ f 19 = .int .i64 X ∧ True) ⟨h1, h2, h3, h7, h11, h12, h13, h14, rfl, trivial⟩ ?_
              rintro f ⟨h1, h2, h3, h7, h11, h12, h13, h14, h19, -⟩
              refine region ?_
              refine sv (yMove h11) ?_
              refine sv (yMove h19) ?_
              refine sv (yAdd rfl rfl ⟨by omega, by omega⟩) ?_
              refine sv (yAsg rfl) ?_
              refine nil ?_
              show Code.wp _ _ _ _ _
              refine seq ?_
              refine region ?_
              refine sv (fa46_5 h14) ?_
              refine sv (yLdB rfl Try.isAgg3 (hS.at _) rfl) ?_
              refine sv (yAdd rfl rfl ⟨by omega, by omega⟩) ?_
              refine sv (yMove h13) ?_
              refine sv (yAdd rfl rfl ⟨by omega, by omega⟩) ?_
              refine sv (yMin rfl rfl) ?_
              refine sv (fa46_5 h14) ?_
              refine sst hS rfl rfl Try.sizeOf3 rfl rfl rfl rfl ?_; clear hS; intro w hS
              refine nil ?_
              show Code.wp _ _ _ _ _
              refine region ?_
              refine sv (fa24_1 h12) ?_
              refine sv (yLdB rfl Try.isAgg22 (hS.at _) rfl) ?_
              refine sv (yLdBA h14 Try.isAgg46 Try.sizeOf46 (hS.at _) rfl rfl) ?_
              refine sbslice hS Try.underlying22 Try.sizeOf46 rfl Try.zeroValue46 rfl (.cons rfl rfl .nil) rfl ?_; clear hS; intro b201 w hS
              refine sapp (bytes := 72) (size := 6) (v := v) (m := 1) hS rfl rfl Try.underlying22 ti46 rfl rfl rfl rfl (by decide) (blk_cells (hS.at _)) rfl rfl (by omega) (by omega) ?_; clear hS; intro v202 w hS
              refine sv (fa24_1 h12) ?_
              obtain ⟨gr, capr, rfl, _, _, _⟩ := row_some (hS.row v202) (Nat.succ_pos _)
              refine sst hS rfl rfl Try.sizeOf22 rfl rfl rfl rfl ?_; clear hS; intro w hS
              refine nil ?_
              show Code.wp _ _ _ _ _
              refine region ?_
              refine sv (yMove h13) ?_
              refine sv (yAdd rfl rfl ⟨by omega, by omega⟩) ?_
              refine sv (yAsg rfl) ?_
              refine nil ?_
              exact ⟨_, _, rfl, ⟨k + 1, _, _, css ++ [[.string c.name, .slice a1 c.heights.length cap1, .int .i64 c.off, .int .i64 c.step, .int .i64 c.den, .int .i64 (min 1000 (c.slack + 1 + (k : Int)))]], h1, h2, h3, h7, rfl, h12, rfl, (by rw [flat_snoc]; exact hS.sub (.cons _ (.cons _ (List.Sublist.refl _)))), (by omega), (by rw [take_snoc hx0, wides_snoc, show 0 + (t.consts.take k).length = k by simp; omega]; exact hrows.snoc rfl ⟨_, rfl, hn1, hsl1, hi1, hi2, hi3, show I64 (min 1000 (c.slack + 1 + (k : Int))) from ⟨by omega, by omega⟩⟩), (hsum2), rfl⟩, by omega⟩
    ·
      simp only [Bool.and_eq_true, Bool.or_eq_true, Bool.and_eq_false_iff, Bool.or_eq_false_iff, decide_eq_true_eq, decide_eq_false_iff_not, Bool.not_eq_true, Bool.not_eq_false, Bool.not_not, Bool.not_eq_eq_eq_not, Bool.not_true, Bool.not_false, Bool.false_eq_true, Bool.true_eq_false, ne_eq, Decidable.not_not, not_false_eq_true, not_true_eq_false] at c53
      obtain rfl : k = t.consts.length := by omega
      rw [List.take_length] at hrows hsum
      refine exit ?_
      show Code.wp _ _ _ _ _
      refine seq ?_
      refine region ?_
      refine sv (yLdBA h12 Try.isAgg24 Try.sizeOf24 (hS.at _) rfl rfl) ?_
      refine sv (yMove h1) ?_
      refine scall Try.call28 (.cons rfl (.cons rfl .nil)) (c_Level (t := ⟨t.mean, wides 0 t.consts⟩) ⟨_, rfl, hmean, sl_of_row (hS.row v) (hrows.ext RConst.stays hS.ext) (wides_len _ _)⟩ hti) ?_
      rintro _ w ⟨rfl, hE⟩; replace hS := hS.step hE; clear hE
      refine sv (yMove rfl) ?_
      refine sv (yExt rfl rfl) ?_
      refine sv (yExt rfl rfl) ?_
      refine salloc hS Try.zeroValue38 rfl ?_; clear hS; intro b20 w hS
      refine sst hS rfl rfl Try.sizeOf38 rfl rfl rfl rfl ?_; clear hS; intro w hS
      refine sv (yAsg rfl) ?_
      refine nil ?_
      show Code.wp _ _ _ _ _
      refine seq ?_
      refine region ?_
      refine sv (yLdBA h7 Try.isAgg38 Try.sizeOf38 (hS.at _) rfl rfl) ?_
      refine sv (yMove h11) ?_
      refine scall Try.call29 (.cons rfl (.cons rfl .nil)) c_has ?_
      rintro _ w ⟨rfl, hE⟩; replace hS := hS.step hE; clear hE
      refine sv (yMove rfl) ?_
      refine sg rfl rfl rfl (fun g => (yMove rfl)) (fun v214 g214 => ?_)
      refine sg rfl rfl rfl (fun g => (yEql (g214.1 g) rfl)) (fun v215 g215 => ?_)
      refine sv (yAnd rfl (fun hB => (g215.1 hB)) rfl) ?_
      refine sv (yMove rfl) ?_
      refine sg rfl rfl rfl (fun g => (yLdBA h7 Try.isAgg38 Try.sizeOf38 (hS.at _) rfl rfl)) (fun v218 g218 => ?_)
      refine sg rfl rfl rfl (fun g => (yLdBA rfl Try.isAgg38 Try.sizeOf38 (hS.at _) rfl rfl)) (fun v219 g219 => ?_)
      refine sgc hS rfl rfl rfl Try.call30 (fun g => (.cons (g218.1 g) (.cons (g219.1 g) .nil))) (fun g => c_within) ?_; clear hS; intro v220 w hS g220
      refine sv (yAnd rfl (fun hB => (g220.1 hB)) rfl) ?_
      refine sv (yMove rfl) ?_
      refine sgc hS rfl rfl rfl Try.call23 (fun g => .nil) (fun g => c_Awake) ?_; clear hS; intro v223 w hS g223
      refine sv (yAnd rfl (fun hB => (g223.1 hB)) rfl) ?_
      refine sv (yAsg rfl) ?_
      refine nil ?_
      show Code.wp _ _ _ _ _
      have hW := levelF_ok (checkT_wide hC) htb
      have hw := withinB_iff.2 (lvl_within hok tick)
      have hh : hasB (lvlT t tick) sum = true := hasB_iff.2 hsum
      refine wp_ret ?_
      exact retV (res1 rfl (eqB (by rw [hW]; simp [hh, hw]))) hS.ext
end Go.Proofs.Ytpgmehignepidaa
/- part Wk12 -/
namespace Go.Proofs.Ytpgmehignepidaa
open Go Bx
/-- barrage/tide.common -/
theorem c_common0 (m : Nat) : ∀ (a b : Nat) (w0 : World), b ≤ m → CV Try.prog 72 #[.int .i64 (a : Int), .int .i64 (b : Int)] w0 (.int .i64 ((Nat.gcd a b : Nat) : Int)) := by
  refine Nat.strongRecOn m (fun m ih => ?_)
  intro a b w0 hm
  refine enter Try.func72 rfl Try.ntmps72 rfl ?_
  have hS := St.start w0
  refine seq ?_
  refine region ?_
  refine sv (yAsg rfl) ?_
  refine nil ?_
  show Code.wp _ _ _ _ _
  refine seq ?_
  refine seq ?_
  refine region ?_
  refine sv (yMove rfl) ?_
  refine sv (yEql rfl rfl) ?_
  refine nil ?_
  show Code.wp _ _ _ _ _
  refine cond rfl (fun c6 => ?_) (fun c6 => ?_)
  ·
    simp only [Bool.and_eq_true, Bool.or_eq_true, Bool.and_eq_false_iff, Bool.or_eq_false_iff, decide_eq_true_eq, decide_eq_false_iff_not, Bool.not_eq_true, Bool.not_eq_false, Bool.not_not, Bool.not_eq_eq_eq_not, Bool.not_true, Bool.not_false, Bool.false_eq_true, Bool.true_eq_false, ne_eq, Decidable.not_not, not_false_eq_true, not_true_eq_false] at c6
    refine seq ?_
    refine region ?_
    refine sv (yMove rfl) ?_
    refine sv (yAsg rfl) ?_
    refine nil ?_
    show Code.wp _ _ _ _ _
    obtain rfl : b = 0 := by omega
    refine wp_ret (thenR ?_)
    exact retV (res1 rfl (eqI (by rw [Nat.gcd_zero_right]))) hS.ext
  ·
    simp only [Bool.and_eq_true, Bool.or_eq_true, Bool.and_eq_false_iff, Bool.or_eq_false_iff, decide_eq_true_eq, decide_eq_false_iff_not, Bool.not_eq_true, Bool.not_eq_false, Bool.not_not, Bool.not_eq_eq_eq_not, Bool.not_true, Bool.not_false, Bool.false_eq_true, Bool.true_eq_false, ne_eq, Decidable.not_not, not_false_eq_true, not_true_eq_false] at c6
    refine skip ?_
    show Code.wp _ _ _ _ _
    refine seq ?_
    refine region ?_
    refine sv (yMove rfl) ?_
    refine sv (yMove rfl) ?_
    refine sv (yMove rfl) ?_
    refine sv (Y.to (yRemP rfl rfl (by omega) (by omega)) (show Value.int .i64 ((a : Int) % (b : Int)) = .int .i64 ((a % b : Nat) : Int) by rw [Int.natCast_emod])) ?_
    have hlt : a % b < b := Nat.mod_lt _ (by omega)
    refine scall Try.call72 (.cons rfl (.cons rfl .nil)) (ih (a % b) (by omega) _ _ _ (Nat.le_refl _)) ?_
    rintro _ w ⟨rfl, hE⟩; replace hS := hS.step hE; clear hE
    refine sv (yAsg rfl) ?_
    refine nil ?_
    show Code.wp _ _ _ _ _
    refine wp_ret ?_
    exact retV (res1 rfl (eqI (by congr 1; rw [Nat.gcd_comm a b, Nat.gcd_rec b a, Nat.gcd_comm]))) hS.ext
theorem c_common {a b : Int} {w0 : World} (ha : 0 ≤ a) (hb : 0 ≤ b) : CV Try.prog 72 #[.int .i64 a, .int .i64 b] w0 (.int .i64 (gcdI a b)) := by
  obtain ⟨a, rfl⟩ := Int.eq_ofNat_of_zero_le ha
  obtain ⟨b, rfl⟩ := Int.eq_ofNat_of_zero_le hb
  exact c_common0 b _ _ _ (Nat.le_refl _)
set_option maxHeartbeats 1000000 in
/-- barrage/tide.Period -/
theorem c_Period {t : Table} {cs : List Value} {w0 : World} (ht : RTable w0 cs t) : CV Try.prog 32 #[.agg cs.toArray] w0 (.tuple #[.int .i64 (periodF t).1, .int .i64 (periodF t).2]) := by
  obtain ⟨cv, rfl, hmean, hsl⟩ := id ht
  obtain ⟨a, cap, rfl, hcap, hmx, hel⟩ := id hsl
  refine enter Try.func32 rfl Try.ntmps32 rfl ?_
  have hS := St.start w0
  refine seq ?_
  refine region ?_
  refine sbox hS rfl rfl ?_; clear hS; intro b1 w hS
  refine sv (yAsg rfl) ?_
  refine sv (yAsg rfl) ?_
  refine nil ?_
  show Code.wp _ _ _ _ _
  refine seq ?_
  refine seq ?_
  refine region ?_
  refine sv (yLdBA rfl Try.isAgg24 Try.sizeOf24 (hS.at _) rfl rfl) ?_
  refine scall Try.call19 (.cons rfl .nil) (c_Check (ht.ext hS.ext)) ?_
  rintro _ w ⟨rfl, hE⟩; replace hS := hS.step hE; clear hE
  refine sv (yMove rfl) ?_
  refine sv (yExt rfl rfl) ?_
  refine sv (yExt rfl rfl) ?_
  refine sv (yAsg rfl) ?_
  refine sv (yAsg rfl) ?_
  refine nil ?_
  show Code.wp _ _ _ _ _
  refine seq ?_
  refine region ?_
  refine sv (yMove rfl) ?_
  refine sv (yNeq rfl rfl) ?_
  refine nil ?_
  show Code.wp _ _ _ _ _
  refine cond rfl (fun c16 => ?_) (fun c16 => ?_)
  ·
    simp only [Bool.and_eq_true, Bool.or_eq_true, Bool.and_eq_false_iff, Bool.or_eq_false_iff, decide_eq_true_eq, decide_eq_false_iff_not, Bool.not_eq_true, Bool.not_eq_false, Bool.not_not, Bool.not_eq_eq_eq_not, Bool.not_true, Bool.not_false, Bool.false_eq_true, Bool.true_eq_false, ne_eq, Decidable.not_not, not_false_eq_true, not_true_eq_false] at c16
    refine seq ?_
    refine region ?_
    refine sv (yMove rfl) ?_
    refine sv (yAsg rfl) ?_
    refine sv (yAsg rfl) ?_
    refine nil ?_
    show Code.wp _ _ _ _ _
    have hfin : periodF t = (0, (checkT t).2) := by unfold periodF; rw [if_pos c16]
    refine wp_ret (thenR ?_)
    exact retV (res2 rfl (eqI (by rw [hfin])) (eqI (by rw [hfin]))) hS.ext
  ·
    simp only [Bool.and_eq_true, Bool.or_eq_true, Bool.and_eq_false_iff, Bool.or_eq_false_iff, decide_eq_true_eq, decide_eq_false_iff_not, Bool.not_eq_true, Bool.not_eq_false, Bool.not_not, Bool.not_eq_eq_eq_not, Bool.not_true, Bool.not_false, Bool.false_eq_true, Bool.true_eq_false, ne_eq, Decidable.not_not, not_false_eq_true, not_true_eq_false] at c16
    have hok := tableOk_of c16
    refine skip ?_
    show Code.wp _ _ _ _ _
    refine seq ?_
    refine region ?_
    refine sv (yAsg rfl) ?_
    refine nil ?_
    show Code.wp _ _ _ _ _
    refine seq ?_
    refine seq ?_
    refine region ?_
    refine sv (fa24_1 rfl) ?_
    refine sv (yLdB rfl Try.isAgg22 (hS.at _) rfl) ?_
    refine sv (yLen rfl Try.underlying22) ?_
    refine sv (yMove rfl) ?_
    refine nil ?_
    show Code.wp _ _ _ _ _
    refine block ?_
    refine loop (fun f w zz => ∃ (k : Nat) (n : Int), f 6 = .int .i64 n ∧ f 19 = .slice a t.consts.length cap ∧ f 20 = .int .i64 (t.consts.length : Int) ∧ f 21 = .int .i64 (k : Int) ∧ StX [] w0 w [] ∧ (k ≤ t.consts.length) ∧ (Bd n 1 1000000000) ∧ (periodF t = perL (t.consts.drop k) n) ∧ zz = t.consts.length - k) _ ⟨_, rfl, 0, 1, rfl, rfl, rfl, rfl, (hS.sub (List.nil_sublist _)), (Nat.zero_le _), (⟨by decide, by decide⟩), (by unfold periodF; rw [if_neg (fun h => h c16)]; rfl), rfl⟩ ?_
    clear hS
    rintro f w _ ⟨k, n, h6, h19, h20, h21, hS, hk, hn, hI, rfl⟩
    refine seq ?_
    refine region ?_
    refine sv (yLss h21 h20) ?_
    refine nil ?_
    show Code.wp _ _ _ _ _
    refine seq ?_
    refine cond rfl (fun c22 => ?_) (fun c22 => ?_)
    ·
      simp only [Bool.and_eq_true, Bool.or_eq_true, Bool.and_eq_false_iff, Bool.or_eq_false_iff, decide_eq_true_eq, decide_eq_false_iff_not, Bool.not_eq_true, Bool.not_eq_false, Bool.not_not, Bool.not_eq_eq_eq_not, Bool.not_true, Bool.not_false, Bool.false_eq_true, Bool.true_eq_false, ne_eq, Decidable.not_not, not_false_eq_true, not_true_eq_false] at c22
      refine skip ?_
      show Code.wp _ _ _ _ _
      refine seq ?_
      refine block ?_
      refine seq ?_
      refine region ?_
      obtain ⟨c, hx, hd⟩ := drop_of (l := t.consts) (k := k) (by omega)
      obtain ⟨b, o, cs, ha, hlen, hcs, hR⟩ := hel (k) (by omega)
      obtain rfl : c = t.consts[k] := (List.getElem?_eq_some_iff.1 hx).2.symm
      generalize t.consts[k] = c at hx hd hR
      obtain ⟨hv, rfl, hn1, hsl1, hi1, hi2, hi3, hi4⟩ := hR
      have hx0 := hx
      have hcok : ConstOk c := hok.consts c (List.mem_of_getElem? hx)
      obtain ⟨a1, cap1, rfl, hq1, hq2, hel1⟩ := id hsl1
      have hcy := cyc_pos hcok
      have hden := hcok.den
      have hln := hcok.len
      have hsk := hcok.slack
      have hst := hcok.step
      have hof := hcok.off
      have hob := oneC_bd hcok
      have hqb := quo_bd hn.1 hob.1
      have hpb := perS_bd hn hcok
      have hg1 := gcdI_pos (b := c.step) (show 0 < c.den * (c.heights.length : Int) by omega)
      have hg2 := gcdI_pos (b := oneC c) (show 0 < n by omega)
      refine sv (yIxa h19 ha h21 Try.runUnderlying22 Try.sizeOf46 (by omega) (by omega)) ?_
      refine sv (yLdA rfl Try.isAgg46 Try.sizeOf46 (hcs.ext hS.ext) rfl) ?_
      refine salloc hS Try.zeroValue46 rfl ?_; clear hS; intro b8 w hS
      refine sst hS rfl rfl Try.sizeOf46 rfl rfl rfl rfl ?_; clear hS; intro w hS
      refine nil ?_
      show Code.wp _ _ _ _ _
      refine seq ?_
      refine region_draw mixed (by kernel_rfl) hS ?_
      refine qv (fun w hS => (yLdBA rfl Try.isAgg46 Try.sizeOf46 (hS.at _) rfl rfl)) ?_
      refine qcall Try.call61 (.cons rfl .nil) (fun w hS => (c_cycle ⟨by omega, by omega⟩)) ?_
      refine qv (fun w hS => (yLdBA rfl Try.isAgg46 Try.sizeOf46 (hS.at _) rfl rfl)) ?_
      refine qcall Try.call61 (.cons rfl .nil) (fun w hS => (c_cycle ⟨by omega, by omega⟩)) ?_
      refine qv (fun w hS => (fa46_3 rfl)) ?_
      refine qv (fun w hS => (yLdB rfl Try.isAgg3 (hS.at _) rfl)) ?_
      refine qcall Try.call72 (.cons rfl (.cons rfl .nil)) (fun w hS => (c_common (by omega) (by omega))) ?_
      refine qv (fun w hS => (Y.to (yQuoP rfl rfl ⟨by omega, by omega⟩ hg1) (show Value.int .i64 (c.den * c.heights.length / gcdI (c.den * c.heights.length) c.step) = .int .i64 (oneC c) from rfl))) ?_
      refine qv (fun w hS => (yAsg rfl)) ?_
      clear hS; refine qnil (fun w hS => ?_)
      show Code.wp _ _ _ _ _
      refine seq ?_
      refine region ?_
      refine sv (yMove h6) ?_
      refine sv (yMove rfl) ?_
      refine sv (yMove h6) ?_
      refine sv (yMove rfl) ?_
      refine scall Try.call72 (.cons rfl (.cons rfl .nil)) (c_common (by omega) (by omega)) ?_
      rintro _ w ⟨rfl, hE⟩; replace hS := hS.step hE; clear hE
      refine sv (yQuoP rfl rfl ⟨by omega, by omega⟩ hg2) ?_
      refine sv (Y.to (yMul rfl rfl (show I64 (perS n c) from ⟨by omega, by omega⟩)) (show Value.int .i64 _ = .int .i64 (perS n c) from rfl)) ?_
      refine sv (yAsg rfl) ?_
      refine nil ?_
      show Code.wp _ _ _ _ _
      refine seq ?_
      refine region ?_
      refine sv (yMove rfl) ?_
      refine sv (yGtr rfl rfl) ?_
      refine nil ?_
      show Code.wp _ _ _ _ _
      refine cond rfl (fun c41 => ?_) (fun c41 => ?_)
      ·
        simp only [Bool.and_eq_true, Bool.or_eq_true, Bool.and_eq_false_iff, Bool.or_eq_false_iff, decide_eq_true_eq, decide_eq_false_iff_not, Bool.not_eq_true, Bool.not_eq_false, Bool.not_not, Bool.not_eq_eq_eq_not, Bool.not_true, Bool.not_false, Bool.false_eq_true, Bool.true_eq_false, ne_eq, Decidable.not_not, not_false_eq_true, not_true_eq_false] at c41
        refine seq ?_
        refine region ?_
        refine sv (yAsg rfl) ?_
        refine sv (yAsg rfl) ?_
        refine nil ?_
        show Code.wp _ _ _ _ _
        have hfin : periodF t = (0, 3) := by rw [hI, hd, perL, if_pos c41]
        refine wp_ret (blockR (thenR (thenR (blockR (thenR ?_)))))
        exact retV (res2 rfl (eqI (by rw [hfin])) (eqI (by rw [hfin]))) hS.ext
      ·
        simp only [Bool.and_eq_true, Bool.or_eq_true, Bool.and_eq_false_iff, Bool.or_eq_false_iff, decide_eq_true_eq, decide_eq_false_iff_not, Bool.not_eq_true, Bool.not_eq_false, Bool.not_not, Bool.not_eq_eq_eq_not, Bool.not_true, Bool.not_false, Bool.false_eq_true, Bool.true_eq_false, ne_eq, Decidable.not_not, not_false_eq_true, not_true_eq_false] at c41
        refine skip ?_
        show Code.wp _ _ _ _ _
        refine region ?_
        refine sv (yAdd h21 rfl ⟨by omega, by omega⟩) ?_
        refine sv (yMove rfl) ?_
        refine nil ?_
        exact ⟨_, _, rfl, ⟨k + 1, perS n c, rfl, h19, h20, rfl, (hS.sub (List.nil_sublist _)), (by omega), (⟨hpb.1, by omega⟩), (by rw [hI, hd, perL, if_neg c41]), rfl⟩, by omega⟩
    ·
      simp only [Bool.and_eq_true, Bool.or_eq_true, Bool.and_eq_false_iff, Bool.or_eq_false_iff, decide_eq_true_eq, decide_eq_false_iff_not, Bool.not_eq_true, Bool.not_eq_false, Bool.not_not, Bool.not_eq_eq_eq_not, Bool.not_true, Bool.not_false, Bool.false_eq_true, Bool.true_eq_false, ne_eq, Decidable.not_not, not_false_eq_true, not_true_eq_false] at c22
      refine exit ?_
      show Code.wp _ _ _ _ _
      refine seq ?_
      refine region ?_
      refine sv (yMove h6) ?_
      refine sv (yAsg rfl) ?_
      refine sv (yAsg rfl) ?_
      refine nil ?_
      show Code.wp _ _ _ _ _
      obtain rfl : k = t.consts.length := by omega
      have hfin : periodF t = (n, 0) := by rw [hI, List.drop_length]; rfl
      refine wp_ret ?_
      exact retV (res2 rfl (eqI (by rw [hfin])) (eqI (by rw [hfin]))) hS.ext
set_option maxHeartbeats 4000000 in
/-- barrage/barragelaw01.TideCycles -/
theorem w_TideCycles {t : Table} {cs : List Value} {tick : Int} {w0 : World} (ht : RTable w0 cs t) (hti : I64 tick) : CV Try.prog 8 #[.agg cs.toArray, .int .i64 tick] w0 (.bool true) := by
  obtain ⟨cv, rfl, hmean, hsl⟩ := id ht
  obtain ⟨a, cap, rfl, hcap, hmx, hel⟩ := id hsl
  refine enter Try.func8 rfl Try.ntmps8 rfl ?_
  have hS := St.start w0
  refine seq ?_
  refine region ?_
  refine sbox hS rfl rfl ?_; clear hS; intro b2 w hS
  refine sv (yAsg rfl) ?_
  refine nil ?_
  show Code.wp _ _ _ _ _
  refine seq ?_
  refine region ?_
  refine sv (yLdBA rfl Try.isAgg24 Try.sizeOf24 (hS.at _) rfl rfl) ?_
  refine scall Try.call32 (.cons rfl .nil) (c_Period (ht.ext hS.ext)) ?_
  rintro _ w ⟨rfl, hE⟩; replace hS := hS.step hE; clear hE
  refine sv (yMove rfl) ?_
  refine sv (yExt rfl rfl) ?_
  refine sv (yExt rfl rfl) ?_
  refine sv (yAsg rfl) ?_
  refine sv (yAsg rfl) ?_
  refine nil ?_
  show Code.wp _ _ _ _ _
  refine seq ?_
  refine region ?_
  refine sv (yLdBA rfl Try.isAgg24 Try.sizeOf24 (hS.at _) rfl rfl) ?_
  refine sv (yMove rfl) ?_
  refine scall Try.call28 (.cons rfl (.cons rfl .nil)) (c_Level (ht.ext hS.ext) hti) ?_
  rintro _ w ⟨rfl, hE⟩; replace hS := hS.step hE; clear hE
  refine sv (yMove rfl) ?_
  refine sv (yExt rfl rfl) ?_
  refine sv (yExt rfl rfl) ?_
  refine salloc hS Try.zeroValue38 rfl ?_; clear hS; intro b7 w hS
  refine sst hS rfl rfl Try.sizeOf38 rfl rfl rfl rfl ?_; clear hS; intro w hS
  refine sv (yAsg rfl) ?_
  refine nil ?_
  show Code.wp _ _ _ _ _
  refine seq ?_
  refine seq ?_
  refine region ?_
  refine sv (yMove rfl) ?_
  refine sv (yNeq rfl rfl) ?_
  refine nil ?_
  show Code.wp _ _ _ _ _
  refine cond rfl (fun c28 => ?_) (fun c28 => ?_)
  ·
    simp only [Bool.and_eq_true, Bool.or_eq_true, Bool.and_eq_false_iff, Bool.or_eq_false_iff, decide_eq_true_eq, decide_eq_false_iff_not, Bool.not_eq_true, Bool.not_eq_false, Bool.not_not, Bool.not_eq_eq_eq_not, Bool.not_true, Bool.not_false, Bool.false_eq_true, Bool.true_eq_false, ne_eq, Decidable.not_not, not_false_eq_true, not_true_eq_false] at c28
    refine seq ?_
    refine region ?_
    refine scall Try.call23 .nil c_Awake ?_
    rintro _ w ⟨rfl, hE⟩; replace hS := hS.step hE; clear hE
    refine sv (yAsg rfl) ?_
    refine nil ?_
    show Code.wp _ _ _ _ _
    refine wp_ret (thenR ?_)
    exact retV (res1 rfl rfl) hS.ext
  ·
    simp only [Bool.and_eq_true, Bool.or_eq_true, Bool.and_eq_false_iff, Bool.or_eq_false_iff, decide_eq_true_eq, decide_eq_false_iff_not, Bool.not_eq_true, Bool.not_eq_false, Bool.not_not, Bool.not_eq_eq_eq_not, Bool.not_true, Bool.not_false, Bool.false_eq_true, Bool.true_eq_false, ne_eq, Decidable.not_not, not_false_eq_true, not_true_eq_false] at c28
    obtain ⟨hC, htb, hLe⟩ := levelF_zero c28
    have hok := tableOk_of hC
    rw [hLe] at hS
    refine skip ?_
    show Code.wp _ _ _ _ _
    refine seqJ (n := 131) (fun f w => f 1 = .int .i64 tick ∧ f 2 = .pointer (some ⟨b2, 0, none⟩) ∧ StX [] w0 w [blk b2 [.int .i64 t.mean, .slice a t.consts.length cap] 24] ∧ True) ?_ ?_
    ·
      refine seq ?_
      refine region ?_
      refine sv (yMove rfl) ?_
      refine sv (yEql rfl rfl) ?_
      refine sv (yMove rfl) ?_
      refine sg rfl rfl rfl (fun g => (yMove rfl)) (fun v33 g33 => ?_)
      refine sg rfl rfl rfl (fun g => (yLeq (g33.1 g) rfl)) (fun v34 g34 => ?_)
      refine sv (yAnd rfl (fun hB => (g34.1 hB)) rfl) ?_
      refine sv (yMove rfl) ?_
      refine sg rfl rfl rfl (fun g => (yMove rfl)) (fun v37 g37 => ?_)
      refine sg rfl rfl rfl (fun g => (yMove rfl)) (fun v38 g38 => ?_)
      refine sg rfl rfl rfl (fun g => (ySub rfl (g38.1 g) (by obtain ⟨h1, h2⟩ := (Bool.and_eq_true _ _).mp g; have := (period_lvl (n := (periodF t).fst) (tick := tick) (Prod.ext rfl (of_decide_eq_true h1))).2.1; have := of_decide_eq_true h2; exact ⟨by omega, by omega⟩))) (fun v39 g39 => ?_)
      refine sg rfl rfl rfl (fun g => (yLeq (g37.1 g) (g39.1 g))) (fun v40 g40 => ?_)
      refine sv (yAnd rfl (fun hB => (g40.1 hB)) rfl) ?_
      refine nil ?_
      show Code.wp _ _ _ _ _
      refine cond rfl (fun c41 => ?_) (fun c41 => ?_)
      ·
        simp only [Bool.and_eq_true, Bool.or_eq_true, Bool.and_eq_false_iff, Bool.or_eq_false_iff, decide_eq_true_eq, decide_eq_false_iff_not, Bool.not_eq_true, Bool.not_eq_false, Bool.not_not, Bool.not_eq_eq_eq_not, Bool.not_true, Bool.not_false, Bool.false_eq_true, Bool.true_eq_false, ne_eq, Decidable.not_not, not_false_eq_true, not_true_eq_false] at c41
        obtain ⟨⟨hp0, hp1⟩, hp2⟩ := c41
        obtain ⟨_, hp3, hp4⟩ := period_lvl (t := t) (n := (periodF t).1) (tick := tick) (Prod.ext rfl hp0)
        have hLp := levelF_ok hC (show Bd (tick + (periodF t).1) 0 200000 by omega)
        refine seq ?_
        refine region ?_
        refine sv (yLdBA rfl Try.isAgg24 Try.sizeOf24 (hS.at _) rfl rfl) ?_
        refine sv (yMove rfl) ?_
        refine sv (yMove rfl) ?_
        refine sv (yAdd rfl rfl ⟨by omega, by omega⟩) ?_
        refine scall Try.call28 (.cons rfl (.cons rfl .nil)) (c_Level (ht.ext hS.ext) ⟨by omega, by omega⟩) ?_
        rintro _ w ⟨rfl, hE⟩; replace hS := hS.step hE; clear hE
        refine sv (yMove rfl) ?_
        refine sv (yExt rfl rfl) ?_
        refine sv (yExt rfl rfl) ?_
        refine salloc hS Try.zeroValue38 rfl ?_; clear hS; intro b9 w hS
        refine sst hS rfl rfl Try.sizeOf38 rfl rfl rfl rfl ?_; clear hS; intro w hS
        refine sv (yAsg rfl) ?_
        refine nil ?_
        show Code.wp _ _ _ _ _
        refine seq ?_
        refine region ?_
        refine sv (yMove rfl) ?_
        refine sv (yNeq rfl rfl) ?_
        refine sv (yMove rfl) ?_
        refine sg rfl rfl rfl (fun g => (yLdBA rfl Try.isAgg38 Try.sizeOf38 (hS.at _) rfl rfl)) (fun v53 g53 => ?_)
        refine sg rfl rfl rfl (fun g => (yLdBA rfl Try.isAgg38 Try.sizeOf38 (hS.at _) rfl rfl)) (fun v54 g54 => ?_)
        refine sg rfl rfl rfl (fun g => (neS38 (g53.1 g) (g54.1 g))) (fun v55 g55 => ?_)
        refine sv (yOr rfl rfl (fun hB => (g55.1 hB))) ?_
        refine sv (yMove rfl) ?_
        refine sg rfl rfl rfl (fun g => (yMove rfl)) (fun v58 g58 => ?_)
        refine sg rfl rfl rfl (fun g => (yLss (g58.1 g) rfl)) (fun v59 g59 => ?_)
        refine sv (yOr rfl rfl (fun hB => (g59.1 hB))) ?_
        refine nil ?_
        show Code.wp _ _ _ _ _
        refine cond rfl (fun c60 => ?_) (fun c60 => ?_)
        ·
          rw [hLp, hp4] at c60
          simp only [decide_not, ne_eq, decide_true, Bool.not_true, Bool.false_or, Bool.and_self, decide_eq_true_eq, decide_eq_false_iff_not] at c60
          omega
        ·
          rw [hLp, hp4] at c60
          simp only [decide_not, ne_eq, decide_true, Bool.not_true, Bool.false_or, Bool.and_self, decide_eq_true_eq, decide_eq_false_iff_not] at c60
          
          refine skip ?_
          exact ⟨_, rfl, rfl, rfl, (hS.sub (.cons _ (.cons _ (List.Sublist.refl _)))), trivial⟩
      ·
        simp only [Bool.and_eq_true, Bool.or_eq_true, Bool.and_eq_false_iff, Bool.or_eq_false_iff, decide_eq_true_eq, decide_eq_false_iff_not, Bool.not_eq_true, Bool.not_eq_false, Bool.not_not, Bool.not_eq_eq_eq_not, Bool.not_true, Bool.not_false, Bool.false_eq_true, Bool.true_eq_false, ne_eq, Decidable.not_not, not_false_eq_true, not_true_eq_false] at c41
        refine skip ?_
        exact ⟨_, rfl, rfl, rfl, (hS.sub (.cons _ (List.Sublist.refl _))), trivial⟩
    ·
      clear hS; rintro f w ⟨h1, h2, hS, -⟩
      refine seq ?_
      refine region ?_
      refine sv (yLdBA h2 Try.isAgg24 Try.sizeOf24 (hS.at _) rfl rfl) ?_
      refine sv (yMove h1) ?_
      refine sv (yAdd rfl rfl ⟨by omega, by omega⟩) ?_
      refine scall Try.call28 (.cons rfl (.cons rfl .nil)) (c_Level (ht.ext hS.ext) ⟨by omega, by omega⟩) ?_
      rintro _ w ⟨rfl, hE⟩; replace hS := hS.step hE; clear hE
      refine sv (yMove rfl) ?_
      refine sv (yExt rfl rfl) ?_
      refine sv (yExt rfl rfl) ?_
      refine salloc hS Try.zeroValue38 rfl ?_; clear hS; intro b11 w hS
      refine sst hS rfl rfl Try.sizeOf38 rfl rfl rfl rfl ?_; clear hS; intro w hS
      refine sv (yAsg rfl) ?_
      refine nil ?_
      show Code.wp _ _ _ _ _
      refine seq ?_
      refine seq ?_
      refine region ?_
      refine sv (yMove rfl) ?_
      refine sv (yNeq rfl rfl) ?_
      refine sv (yMove rfl) ?_
      refine sg rfl rfl rfl (fun g => (yMove h1)) (fun v71 g71 => ?_)
      refine sg rfl rfl rfl (fun g => (yGeq (g71.1 g) rfl)) (fun v72 g72 => ?_)
      refine sv (yOr rfl rfl (fun hB => (g72.1 hB))) ?_
      refine nil ?_
      show Code.wp _ _ _ _ _
      refine cond rfl (fun c73 => ?_) (fun c73 => ?_)
      ·
        simp only [Bool.and_eq_true, Bool.or_eq_true, Bool.and_eq_false_iff, Bool.or_eq_false_iff, decide_eq_true_eq, decide_eq_false_iff_not, Bool.not_eq_true, Bool.not_eq_false, Bool.not_not, Bool.not_eq_eq_eq_not, Bool.not_true, Bool.not_false, Bool.false_eq_true, Bool.true_eq_false, ne_eq, Decidable.not_not, not_false_eq_true, not_true_eq_false] at c73
        refine seq ?_
        refine region ?_
        refine scall Try.call23 .nil c_Awake ?_
        rintro _ w ⟨rfl, hE⟩; replace hS := hS.step hE; clear hE
        refine sv (yAsg rfl) ?_
        refine nil ?_
        show Code.wp _ _ _ _ _
        refine wp_ret (thenR ?_)
        exact retV (res1 rfl rfl) hS.ext
      ·
        simp only [Bool.and_eq_true, Bool.or_eq_true, Bool.and_eq_false_iff, Bool.or_eq_false_iff, decide_eq_true_eq, decide_eq_false_iff_not, Bool.not_eq_true, Bool.not_eq_false, Bool.not_not, Bool.not_eq_eq_eq_not, Bool.not_true, Bool.not_false, Bool.false_eq_true, Bool.true_eq_false, ne_eq, Decidable.not_not, not_false_eq_true, not_true_eq_false] at c73
        obtain ⟨hN, hlt⟩ := c73
        obtain ⟨_, _, hNe⟩ := levelF_zero hN
        rw [hNe] at hS
        refine skip ?_
        show Code.wp _ _ _ _ _
        refine seq ?_
        refine region ?_
        refine sv (yLdBA h2 Try.isAgg24 Try.sizeOf24 (hS.at _) rfl rfl) ?_
        refine salloc hS Try.zeroValue24 rfl ?_; clear hS; intro b12 w hS
        refine sst hS rfl rfl Try.sizeOf24 rfl rfl rfl rfl ?_; clear hS; intro w hS
        refine nil ?_
        show Code.wp _ _ _ _ _
        refine seq ?_
        refine region ?_
        refine sv (fa24_1 rfl) ?_
        refine sst hS rfl rfl Try.sizeOf22 rfl rfl rfl rfl ?_; clear hS; intro w hS
        refine nil ?_
        show Code.wp _ _ _ _ _
        refine seq ?_
        refine seq ?_
        refine region ?_
        refine sv (yAsg rfl) ?_
        refine nil ?_
        show Code.wp _ _ _ _ _
        refine block ?_
        refine loop (fun f w zz => ∃ (k : Nat) (v : Value) (css : List (List Value)), f 1 = .int .i64 tick ∧ f 2 = .pointer (some ⟨b2, 0, none⟩) ∧ f 11 = .pointer (some ⟨b11, 0, none⟩) ∧ f 12 = .pointer (some ⟨b12, 0, none⟩) ∧ f 13 = .int .i64 (k : Int) ∧ StX [] w0 w [rowI v 46 6 k css.flatten, blk b12 [.int .i64 t.mean, v] 24, blk b11 (spanC (lvlT t (tick + 1))) 38, blk b2 [.int .i64 t.mean, .slice a t.consts.length cap] 24] ∧ (k ≤ t.consts.length) ∧ (Bx.Rows w0 6 RConst css ((t.consts.take k).map shiftC)) ∧ zz = t.consts.length - k) _ ⟨_, rfl, 0, _, [], h1, h2, rfl, rfl, rfl, (hS.nilrow 46 6), (Nat.zero_le _), (trivial), rfl⟩ ?_
        clear hS
        rintro f w _ ⟨k, v, css, h1, h2, h11, h12, h13, hS, hk, hrows, rfl⟩
        refine seq ?_
        refine seq ?_
        refine region ?_
        refine sv (yMove h13) ?_
        refine sv (fa24_1 h2) ?_
        refine sv (yLdB rfl Try.isAgg22 (hS.at _) rfl) ?_
        refine sv (yLen rfl Try.underlying22) ?_
        refine sv (yLss rfl rfl) ?_
        refine nil ?_
        show Code.wp _ _ _ _ _
        refine cond rfl (fun c81 => ?_) (fun c81 => ?_)
        ·
          simp only [Bool.and_eq_true, Bool.or_eq_true, Bool.and_eq_false_iff, Bool.or_eq_false_iff, decide_eq_true_eq, decide_eq_false_iff_not, Bool.not_eq_true, Bool.not_eq_false, Bool.not_not, Bool.not_eq_eq_eq_not, Bool.not_true, Bool.not_false, Bool.false_eq_true, Bool.true_eq_false, ne_eq, Decidable.not_not, not_false_eq_true, not_true_eq_false] at c81
          obtain ⟨c, hx, hd⟩ := drop_of (l := t.consts) (k := k) (by omega)
          obtain ⟨b, o, cs, ha, hlen, hcs, hR⟩ := hel (k) (by omega)
          obtain rfl : c = t.consts[k] := (List.getElem?_eq_some_iff.1 hx).2.symm
          generalize t.consts[k] = c at hx hd hR
          obtain ⟨hv, rfl, hn1, hsl1, hi1, hi2, hi3, hi4⟩ := hR
          have hx0 := hx
          have hcok : ConstOk c := hok.consts c (List.mem_of_getElem? hx)
          obtain ⟨a1, cap1, rfl, hq1, hq2, hel1⟩ := id hsl1
          have hcy := cyc_pos hcok
          have hden := hcok.den
          have hln := hcok.len
          have hsk := hcok.slack
          have hst := hcok.step
          have hof := hcok.off
          have hl12 := hok.len
          have hio : I64 ((c.off + c.step) % (c.den * c.heights.length)) := ⟨by have := Int.emod_nonneg (c.off + c.step) (show c.den * (c.heights.length : Int) ≠ 0 by omega); omega, by have := Int.emod_lt_of_pos (c.off + c.step) (show 0 < c.den * (c.heights.length : Int) by omega); omega⟩
          refine skip ?_
          show Code.wp _ _ _ _ _
          refine seq ?_
          refine block ?_
          refine seq ?_
          refine region ?_
          refine sv (fa24_1 h2) ?_
          refine sv (yLdB rfl Try.isAgg22 (hS.at _) rfl) ?_
          refine sv (yMove h13) ?_
          refine sv (yIxa rfl ha rfl Try.runUnderlying22 Try.sizeOf46 (by omega) (by omega)) ?_
          refine sv (yLdA rfl Try.isAgg46 Try.sizeOf46 (hcs.ext hS.ext) rfl) ?_
          refine salloc hS Try.zeroValue46 rfl ?_; clear hS; intro b14 w hS
          refine sst hS rfl rfl Try.sizeOf46 rfl rfl rfl rfl ?_; clear hS; intro w hS
          refine nil ?_
          show Code.wp _ _ _ _ _
          refine seq ?_
          refine seq ?_
          refine region ?_
          refine sv (fa46_4 rfl) ?_
          refine sv (yLdB rfl Try.isAgg3 (hS.at _) rfl) ?_
          refine sv (fa46_1 rfl) ?_
          refine sv (yLdB rfl Try.isAgg44 (hS.at _) rfl) ?_
          refine sv (yLen rfl Try.underlying44) ?_
          refine sv (yMul rfl rfl ⟨by omega, by omega⟩) ?_
          refine sv (yLss rfl rfl) ?_
          refine nil ?_
          show Code.wp _ _ _ _ _
          refine cond rfl (fun c95 => ?_) (fun c95 => ?_)
          ·
            simp only [Bool.and_eq_true, Bool.or_eq_true, Bool.and_eq_false_iff, Bool.or_eq_false_iff, decide_eq_true_eq, decide_eq_false_iff_not, Bool.not_eq_true, Bool.not_eq_false, Bool.not_not, Bool.not_eq_eq_eq_not, Bool.not_true, Bool.not_false, Bool.false_eq_true, Bool.true_eq_false, ne_eq, Decidable.not_not, not_false_eq_true, not_true_eq_false] at c95
            omega
          ·
            simp only [Bool.and_eq_true, Bool.or_eq_true, Bool.and_eq_false_iff, Bool.or_eq_false_iff, decide_eq_true_eq, decide_eq_false_iff_not, Bool.not_eq_true, Bool.not_eq_false, Bool.not_not, Bool.not_eq_eq_eq_not, Bool.not_true, Bool.not_false, Bool.false_eq_true, Bool.true_eq_false, ne_eq, Decidable.not_not, not_false_eq_true, not_true_eq_false] at c95
            refine skip ?_
            show Code.wp _ _ _ _ _
            refine seq ?_
            refine region ?_
            refine sv (fa46_2 rfl) ?_
            refine sv (yLdB rfl Try.isAgg3 (hS.at _) rfl) ?_
            refine sv (fa46_3 rfl) ?_
            refine sv (yLdB rfl Try.isAgg3 (hS.at _) rfl) ?_
            refine sv (yAdd rfl rfl ⟨by omega, by omega⟩) ?_
            refine sv (fa46_4 rfl) ?_
            refine sv (yLdB rfl Try.isAgg3 (hS.at _) rfl) ?_
            refine sv (fa46_1 rfl) ?_
            refine sv (yLdB rfl Try.isAgg44 (hS.at _) rfl) ?_
            refine sv (yLen rfl Try.underlying44) ?_
            refine sv (yMul rfl rfl ⟨by omega, by omega⟩) ?_
            refine sv (yRemP rfl rfl (by omega) (by omega)) ?_
            refine sv (fa46_2 rfl) ?_
            refine sst hS rfl rfl Try.sizeOf3 rfl rfl rfl rfl ?_; clear hS; intro w hS
            refine nil ?_
            show Code.wp _ _ _ _ _
            refine region ?_
            refine sv (fa24_1 h12) ?_
            refine sv (yLdB rfl Try.isAgg22 (hS.at _) rfl) ?_
            refine sv (yLdBA rfl Try.isAgg46 Try.sizeOf46 (hS.at _) rfl rfl) ?_
            refine sbslice hS Try.underlying22 Try.sizeOf46 rfl Try.zeroValue46 rfl (.cons rfl rfl .nil) rfl ?_; clear hS; intro b112 w hS
            refine sapp (bytes := 72) (size := 6) (v := v) (m := 1) hS rfl rfl Try.underlying22 ti46 rfl rfl rfl rfl (by decide) (blk_cells (hS.at _)) rfl rfl (by omega) (by omega) ?_; clear hS; intro v113 w hS
            refine sv (fa24_1 h12) ?_
            obtain ⟨gr, capr, rfl, _, _, _⟩ := row_some (hS.row v113) (Nat.succ_pos _)
            refine sst hS rfl rfl Try.sizeOf22 rfl rfl rfl rfl ?_; clear hS; intro w hS
            refine nil ?_
            show Code.wp _ _ _ _ _
            refine region ?_
            refine sv (yMove h13) ?_
            refine sv (yAdd rfl rfl ⟨by omega, by omega⟩) ?_
            refine sv (yAsg rfl) ?_
            refine nil ?_
            exact ⟨_, _, rfl, ⟨k + 1, _, css ++ [[.string c.name, .slice a1 c.heights.length cap1, .int .i64 ((c.off + c.step) % (c.den * c.heights.length)), .int .i64 c.step, .int .i64 c.den, .int .i64 c.slack]], h1, h2, h11, h12, rfl, (by rw [flat_snoc]; exact hS.sub (.cons _ (.cons _ (List.Sublist.refl _)))), (by omega), (by rw [take_snoc hx0, List.map_append]; exact hrows.snoc rfl ⟨_, rfl, hn1, hsl1, hio, hi2, hi3, hi4⟩), rfl⟩, by omega⟩
        ·
          simp only [Bool.and_eq_true, Bool.or_eq_true, Bool.and_eq_false_iff, Bool.or_eq_false_iff, decide_eq_true_eq, decide_eq_false_iff_not, Bool.not_eq_true, Bool.not_eq_false, Bool.not_not, Bool.not_eq_eq_eq_not, Bool.not_true, Bool.not_false, Bool.false_eq_true, Bool.true_eq_false, ne_eq, Decidable.not_not, not_false_eq_true, not_true_eq_false] at c81
          obtain rfl : k = t.consts.length := by omega
          rw [List.take_length] at hrows
          refine exit ?_
          show Code.wp _ _ _ _ _
          refine seq ?_
          refine region ?_
          refine sv (yLdBA h12 Try.isAgg24 Try.sizeOf24 (hS.at _) rfl rfl) ?_
          refine sv (yMove h1) ?_
          refine scall Try.call28 (.cons rfl (.cons rfl .nil)) (c_Level (t := ⟨t.mean, t.consts.map shiftC⟩) ⟨_, rfl, hmean, sl_of_row (hS.row v) (hrows.ext RConst.stays hS.ext) (List.length_map _)⟩ hti) ?_
          rintro _ w ⟨rfl, hE⟩; replace hS := hS.step hE; clear hE
          refine sv (yMove rfl) ?_
          refine sv (yExt rfl rfl) ?_
          refine sv (yExt rfl rfl) ?_
          refine salloc hS Try.zeroValue38 rfl ?_; clear hS; intro b15 w hS
          refine sst hS rfl rfl Try.sizeOf38 rfl rfl rfl rfl ?_; clear hS; intro w hS
          refine sv (yAsg rfl) ?_
          refine nil ?_
          show Code.wp _ _ _ _ _
          refine seq ?_
          refine region ?_
          refine sv (yMove rfl) ?_
          refine sv (yEql rfl rfl) ?_
          refine sv (yMove rfl) ?_
          refine sg rfl rfl rfl (fun g => (yLdBA rfl Try.isAgg38 Try.sizeOf38 (hS.at _) rfl rfl)) (fun v124 g124 => ?_)
          refine sg rfl rfl rfl (fun g => (yLdBA h11 Try.isAgg38 Try.sizeOf38 (hS.at _) rfl rfl)) (fun v125 g125 => ?_)
          refine sg rfl rfl rfl (fun g => (eqS38 (g124.1 g) (g125.1 g))) (fun v126 g126 => ?_)
          refine sv (yAnd rfl (fun hB => (g126.1 hB)) rfl) ?_
          refine sv (yMove rfl) ?_
          refine sgc hS rfl rfl rfl Try.call23 (fun g => .nil) (fun g => c_Awake) ?_; clear hS; intro v129 w hS g129
          refine sv (yAnd rfl (fun hB => (g129.1 hB)) rfl) ?_
          refine sv (yAsg rfl) ?_
          refine nil ?_
          show Code.wp _ _ _ _ _
          have hW := levelF_ok (checkT_shift hC) htb
          refine wp_ret ?_
          exact retV (res1 rfl (eqB (by rw [hW, lvl_shift]; simp))) hS.ext
end Go.Proofs.Ytpgmehignepidaa
