/- Walks, part Wk5. -/
import Derived.Test.YtpgmehignepidaaWk4
set_option linter.all false
namespace Go.Proofs.Ytpgmehignepidaa
open Go Bx
/-- barrage/tide.datum -/
theorem c_datum {g : Gauge} {r : Reading} {cs : List Value} {w0 : World} (hg : RGauge w0 cs g) (hok : GaugeOk g) (hr : 0 ≤ r.tick) : CV Try.prog 89 #[.agg cs.toArray, .agg (readC r).toArray] w0 (.int .i64 (datI g.datums r.tick : Nat)) := by
  obtain ⟨dv, rv, rfl, hnm, hge, hgr, hsd, hsr⟩ := id hg
  obtain ⟨a, cap, rfl, hcap, hmx, hel⟩ := id hsd
  obtain ⟨a2, cap2, rfl, hcap2, hmx2, hel2⟩ := id hsr
  have hc := cntD_pos hok.len.1 hok.first hr
  have hl8 := hok.len.2
  refine enter Try.func89 rfl Try.ntmps89 rfl ?_
  have hS := St.start w0
  refine seq ?_
  refine region ?_
  refine sbox hS rfl rfl ?_; clear hS; intro b2 w hS
  refine sbox hS rfl rfl ?_; clear hS; intro b3 w hS
  refine sv (yAsg rfl) ?_
  refine nil ?_
  show Code.wp _ _ _ _ _
  refine seq ?_
  refine region ?_
  refine sv (fa34_3 rfl) ?_
  refine sv (yLdB rfl Try.isAgg31 (hS.at _) rfl) ?_
  refine sv (fa103_0 rfl) ?_
  refine sv (yLdB rfl Try.isAgg3 (hS.at _) rfl) ?_
  refine scall Try.call111 (.cons rfl (.cons rfl (.cons rfl .nil))) (c_SearchDatum (hsd.ext RDatum.stays hS.ext) hok.asc (by omega)) ?_
  rintro _ w ⟨i, is, rfl, hse, hE⟩; replace hS := hS.step hE; clear hE; have hse1 := hse.1
  refine sv (yMove rfl) ?_
  refine sv (yExt rfl rfl) ?_
  refine sv (yExt rfl rfl) ?_
  refine sv (yAsg rfl) ?_
  refine sv (yAsg rfl) ?_
  refine nil ?_
  show Code.wp _ _ _ _ _
  refine seq ?_
  refine seq ?_
  refine region ?_
  refine sv (yMove rfl) ?_
  refine nil ?_
  show Code.wp _ _ _ _ _
  refine cond rfl (fun c15 => ?_) (fun c15 => ?_)
  ·
    refine seq ?_
    refine region ?_
    refine sv (yMove rfl) ?_
    refine sv (yAsg rfl) ?_
    refine nil ?_
    show Code.wp _ _ _ _ _
    have hfin := searchD_datI hse hok.asc hc
    rw [if_pos c15] at hfin
    refine wp_ret (thenR ?_)
    exact retV (res1 rfl (eqI hfin.symm)) hS.ext
  ·
    refine skip ?_
    show Code.wp _ _ _ _ _
    refine seq ?_
    refine region ?_
    refine sv (yMove rfl) ?_
    refine sv (ySub rfl rfl ⟨by omega, by omega⟩) ?_
    refine sv (yAsg rfl) ?_
    refine nil ?_
    show Code.wp _ _ _ _ _
    have hfin := searchD_datI hse hok.asc hc
    rw [if_neg (by rw [c15]; decide)] at hfin
    refine wp_ret ?_
    exact retV (res1 rfl (eqI hfin.symm)) hS.ext
/-- barrage/tide.around -/
theorem c_around {v e : Int} {s : Span} {w0 : World} (hv : Bd v (-100000) 100000) (he : Bd e 0 2000000000) (hs : Bd s.lo (-100000) 100000 ∧ Bd s.hi (-100000) 100000) : CV Try.prog 91 #[.int .i64 v, .int .i64 e, .agg (spanC s).toArray] w0 (.agg (spanC (around v e s)).toArray) := by
  refine enter Try.func91 rfl Try.ntmps91 rfl ?_
  have hS := St.start w0
  refine seq ?_
  refine region ?_
  refine sbox hS rfl rfl ?_; clear hS; intro b5 w hS
  refine salloc hS Try.zeroValue38 rfl ?_; clear hS; intro b6 w hS
  refine nil ?_
  show Code.wp _ _ _ _ _
  refine seq ?_
  refine region ?_
  refine sv (yMove rfl) ?_
  refine sv (yMove rfl) ?_
  refine sv (ySub rfl rfl ⟨by omega, by omega⟩) ?_
  refine sv (fa38_1 rfl) ?_
  refine sv (yLdB rfl Try.isAgg3 (hS.at _) rfl) ?_
  refine sv (ySub rfl rfl ⟨by omega, by omega⟩) ?_
  refine sv (yMove rfl) ?_
  refine sv (yMove rfl) ?_
  refine sv (yAdd rfl rfl ⟨by omega, by omega⟩) ?_
  refine sv (fa38_0 rfl) ?_
  refine sv (yLdB rfl Try.isAgg3 (hS.at _) rfl) ?_
  refine sv (ySub rfl rfl ⟨by omega, by omega⟩) ?_
  refine sv (yBuild Try.zeroValue38 rfl pl38 (.cons rfl rfl (.cons rfl rfl .nil)) rfl) ?_
  refine sst hS rfl rfl Try.sizeOf38 rfl rfl rfl rfl ?_; clear hS; intro w hS
  refine nil ?_
  show Code.wp _ _ _ _ _
  refine wp_ret ?_
  exact retV (resV1 rfl (rc rfl Try.isAgg38 Try.sizeOf38 (hS.at _) rfl rfl)) hS.ext
/-- (barrage/tide.span).empty -/
theorem c_empty {s : Span} {w0 : World} : CV Try.prog 92 #[.agg (spanC s).toArray] w0 (.bool (decide (s.hi < s.lo))) := by
  refine enter Try.func92 rfl Try.ntmps92 rfl ?_
  have hS := St.start w0
  refine seq ?_
  refine region ?_
  refine sbox hS rfl rfl ?_; clear hS; intro b1 w hS
  refine sv (yAsg rfl) ?_
  refine nil ?_
  show Code.wp _ _ _ _ _
  refine seq ?_
  refine region ?_
  refine sv (fa127_0 rfl) ?_
  refine sv (fa38_0 rfl) ?_
  refine sv (yLdB rfl Try.isAgg3 (hS.at _) rfl) ?_
  refine sv (fa127_0 rfl) ?_
  refine sv (fa38_1 rfl) ?_
  refine sv (yLdB rfl Try.isAgg3 (hS.at _) rfl) ?_
  refine sv (yGtr rfl rfl) ?_
  refine sv (yAsg rfl) ?_
  refine nil ?_
  show Code.wp _ _ _ _ _
  refine wp_ret ?_
  exact retV (res1 rfl rfl) hS.ext
/-- barrage/tide.whole -/
theorem c_whole {w0 : World} : CV Try.prog 99 #[] w0 (.agg (spanC ⟨-20000, 20000⟩).toArray) := by
  refine enter Try.func99 rfl Try.ntmps99 rfl ?_
  have hS := St.start w0
  refine seq ?_
  refine region ?_
  refine salloc hS Try.zeroValue127 rfl ?_; clear hS; intro b0 w hS
  refine nil ?_
  show Code.wp _ _ _ _ _
  refine seq ?_
  refine region ?_
  refine sv (yBuild Try.zeroValue38 rfl pl38 (.cons rfl rfl (.cons rfl rfl .nil)) rfl) ?_
  refine sv (yBuild Try.zeroValue127 rfl pl127 (.cons rfl rfl .nil) rfl) ?_
  refine sst hS rfl rfl Try.sizeOf127 rfl rfl rfl rfl ?_; clear hS; intro w hS
  refine nil ?_
  show Code.wp _ _ _ _ _
  refine wp_ret ?_
  exact retV (resV1 rfl (rc rfl Try.isAgg127 Try.sizeOf127 (hS.at _) rfl rfl)) hS.ext
/-- (*barrage/tide.span).cut -/
theorem c_cut {b : Nat} {T : TypeId} {s x : Span} {w0 : World} (hb : w0.heap[b]? = some (.cells (spanC s).toArray T (0, 0))) : CE Try.prog 90 #[.pointer (some ⟨b, 0, none⟩), .agg (spanC x).toArray] w0 (fun v w' => v = .tuple #[] ∧ Put b (.cells (spanC (cutS s x)).toArray T (0, 0)) w0 w') := by
  refine enter Try.func90 rfl Try.ntmps90 rfl ?_
  have hS := StX.start1 (b := b) ⟨_, hb, rfl⟩
  refine seq ?_
  refine region ?_
  refine sbox hS rfl rfl ?_; clear hS; intro b3 w hS
  refine nil ?_
  show Code.wp _ _ _ _ _
  refine region_two mixed [0, 0, 0, 0, 0, 0, 1, 0, 2, 0, 0, 0, 2, 0, 1, 0, 2, 0, 0, 0, 0] 18 22 (fun w => StX [b] w0 w [blk b3 (spanC x) 38, blk b (spanC s) T]) (fun w => StX [b] w0 w [blk b3 (spanC x) 38]) (by kernel_rfl) (fun c a a' w h => by obtain ⟨_, v, hv, _⟩ := h; cases hv) hS (fun _ h => h) (fun _ h => h.sub (.cons_cons _ (List.nil_sublist _))) ?_
  clear hS; intro w hS
  refine hv0 (fun w => (yMove rfl)) ?_
  refine hv0 (fun w => (yMove rfl)) ?_
  refine hv0 (fun w => (yMove rfl)) ?_
  refine hv0 (fun w => (yNil rfl)) ?_
  refine hv0 (fun w => (fa127_0 rfl)) ?_
  refine hv0 (fun w => (fa38_0 rfl)) ?_
  refine hv1 (fun w hS => (yLdB rfl Try.isAgg3 (hS.at _) rfl)) ?_
  refine hv0 (fun w => (fa38_0 rfl)) ?_
  refine hv2 (fun w hS => (yLdB rfl Try.isAgg3 (hS.at _) rfl)) ?_
  refine hv0 (fun w => (yMax rfl rfl)) ?_
  refine hv0 (fun w => (yMove rfl)) ?_
  refine hv0 (fun w => (yNil rfl)) ?_
  refine hv2 (fun w hS => (fa127_0 rfl)) ?_
  refine hv0 (fun w => (fa38_1 rfl)) ?_
  refine hv1 (fun w hS => (yLdB rfl Try.isAgg3 (hS.at _) rfl)) ?_
  refine hv0 (fun w => (fa38_1 rfl)) ?_
  refine hv2 (fun w hS => (yLdB rfl Try.isAgg3 (hS.at _) rfl)) ?_
  refine hv0 (fun w => (yMin rfl rfl)) ?_
  refine hv0 (fun w => (yNil rfl)) ?_
  refine hv0 (fun w => (fa127_0 rfl)) ?_
  refine hv0 (fun w => (fa38_0 rfl)) ?_
  refine hgnil ?_
  show wpR _ _ _ _ _ _ _ _ _ _ _ _
  refine r_step (i := 21) (is := []) (by kernel_rfl) ⟨?_, trivial⟩
  refine ⟨_, rfl, ?_⟩
  refine sst hS rfl rfl Try.sizeOf3 rfl rfl rfl rfl ?_; clear hS; intro w hS
  refine nil ?_
  refine ⟨⟨fun h => absurd h (by decide), fun _ _ => hS.sub (.cons_cons _ (List.nil_sublist _))⟩, ?_⟩
  show wpR _ _ _ _ _ _ _ _ _ _ _ _
  refine r_step (i := 22) (is := []) (by kernel_rfl) ⟨?_, trivial⟩
  refine ⟨_, rfl, ?_⟩
  refine sv (yNil rfl) ?_
  refine nil ?_
  refine ⟨⟨fun _ h => h, fun _ h => h⟩, ?_⟩
  show wpR _ _ _ _ _ _ _ _ _ _ _ _
  refine r_step (i := 23) (is := []) (by kernel_rfl) ⟨?_, trivial⟩
  refine ⟨_, rfl, ?_⟩
  refine sv (fa127_0 rfl) ?_
  refine nil ?_
  refine ⟨⟨fun _ h => h, fun _ h => h⟩, ?_⟩
  show wpR _ _ _ _ _ _ _ _ _ _ _ _
  refine r_step (i := 24) (is := []) (by kernel_rfl) ⟨?_, trivial⟩
  refine ⟨_, rfl, ?_⟩
  refine sv (fa38_1 rfl) ?_
  refine nil ?_
  refine ⟨⟨fun _ h => h, fun _ h => h⟩, ?_⟩
  show wpR _ _ _ _ _ _ _ _ _ _ _ _
  refine r_step (i := 25) (is := []) (by kernel_rfl) ⟨?_, trivial⟩
  refine ⟨_, rfl, ?_⟩
  refine sst hS rfl rfl Try.sizeOf3 rfl rfl rfl rfl ?_; clear hS; intro w hS
  refine nil ?_
  refine ⟨⟨fun h => absurd h (by decide), fun h => absurd h (by decide)⟩, ?_⟩
  show wpR _ _ _ _ _ _ _ _ _ _ _ _
  refine r_end (by kernel_rfl) ?_
  show bodyPost _ _ _ _ _ _
  refine retN (results_none rfl _ _ _) ?_
  exact ⟨rfl, hS.isPut⟩
set_option maxHeartbeats 1000000 in
/-- barrage/tide.says -/
theorem c_says {g : Gauge} {cs : List Value} {t now : Int} {w0 : World} (hg : RGauge w0 cs g) (hok : GaugeOk g) (ht : Bd t 0 200000) : CV Try.prog 69 #[.agg cs.toArray, .int .i64 t, .int .i64 now] w0 (.tuple #[.agg (spanC (saysG g t now).1).toArray, .int .i64 (saysG g t now).2]) := by
  obtain ⟨dv, rv, rfl, hnm, hge, hgr, hsd, hsr⟩ := id hg
  obtain ⟨a, cap, rfl, hcap, hmx, hel⟩ := id hsd
  obtain ⟨a2, cap2, rfl, hcap2, hmx2, hel2⟩ := id hsr
  have hrl := hok.rlen
  have hge := hok.err
  have hgr := hok.rate
  refine enter Try.func69 rfl Try.ntmps69 rfl ?_
  have hS := St.start w0
  refine seq ?_
  refine region ?_
  refine sbox hS rfl rfl ?_; clear hS; intro b3 w hS
  refine salloc hS Try.zeroValue38 rfl ?_; clear hS; intro b6 w hS
  refine sv (yAsg rfl) ?_
  refine nil ?_
  show Code.wp _ _ _ _ _
  refine seq ?_
  refine region ?_
  refine scall Try.call99 .nil c_whole ?_
  rintro _ w ⟨rfl, hE⟩; replace hS := hS.step hE; clear hE
  refine salloc hS Try.zeroValue127 rfl ?_; clear hS; intro b8 w hS
  refine sst hS rfl rfl Try.sizeOf127 rfl rfl rfl rfl ?_; clear hS; intro w hS
  refine sv (yAsg rfl) ?_
  refine nil ?_
  show Code.wp _ _ _ _ _
  refine seq ?_
  refine seq ?_
  refine region ?_
  refine sv (fa34_4 rfl) ?_
  refine sv (yLdB rfl Try.isAgg32 (hS.at _) rfl) ?_
  refine sv (yLen rfl Try.underlying32) ?_
  refine sv (yMove rfl) ?_
  refine nil ?_
  show Code.wp _ _ _ _ _
  refine block ?_
  refine loop (fun f w m => ∃ (k : Nat) (e : Int), f 1 = .int .i64 t ∧ f 2 = .int .i64 now ∧ f 3 = .pointer (some ⟨b3, 0, none⟩) ∧ f 6 = .pointer (some ⟨b6, 0, none⟩) ∧ f 8 = .pointer (some ⟨b8, 0, none⟩) ∧ f 9 = .int .i64 e ∧ f 15 = .slice a2 g.readings.length cap2 ∧ f 16 = .int .i64 (g.readings.length : Int) ∧ f 17 = .int .i64 (k : Int) ∧ St w0 w [blk b8 (spanC (cuts g t (g.readings.take k))) 127, blk b6 [.int .i64 0, .int .i64 0] 38, blk b3 [.string g.name, .int .i64 g.err, .int .i64 g.rate, .slice a g.datums.length cap, .slice a2 g.readings.length cap2] 34] ∧ (k ≤ g.readings.length) ∧ (e = if k = 0 then 4 else 0) ∧ (∀ x ∈ g.readings.take k, x.tick ≤ now) ∧ m = g.readings.length - k) _ ⟨_, rfl, 0, 4, rfl, rfl, rfl, rfl, rfl, rfl, rfl, rfl, rfl, hS, (Nat.zero_le _), (rfl), (fun x hx => by cases hx), rfl⟩ ?_
  clear hS
  rintro f w _ ⟨k, e, h1, h2, h3, h6, h8, h9, h15, h16, h17, hS, hk, he, hle, rfl⟩
  refine seq ?_
  refine region ?_
  refine sv (yLss h17 h16) ?_
  refine nil ?_
  show Code.wp _ _ _ _ _
  refine seq ?_
  refine cond rfl (fun c18 => ?_) (fun c18 => ?_)
  ·
    simp only [Bool.and_eq_true, Bool.or_eq_true, Bool.and_eq_false_iff, Bool.or_eq_false_iff, decide_eq_true_eq, decide_eq_false_iff_not, Bool.not_eq_true, Bool.not_eq_false, Bool.not_not, Bool.not_eq_eq_eq_not, Bool.not_true, Bool.not_false, Bool.false_eq_true, Bool.true_eq_false, ne_eq, Decidable.not_not, not_false_eq_true, not_true_eq_false] at c18
    refine skip ?_
    show Code.wp _ _ _ _ _
    refine seq ?_
    refine block ?_
    refine seq ?_
    refine region ?_
    obtain ⟨r, hx, hd⟩ := drop_of (l := g.readings) (k := k) (by omega)
    obtain ⟨b, o, cs, ha, hlen, hcs, hR⟩ := hel2 (k) (by omega)
    obtain rfl : r = g.readings[k] := (List.getElem?_eq_some_iff.1 hx).2.symm
    generalize g.readings[k] = r at hx hd hR
    obtain ⟨rfl, hr1, hr2⟩ := hR
    refine sv (yIxa h15 ha h17 Try.runUnderlying32 Try.sizeOf103 (by omega) (by omega)) ?_
    refine sv (yLdA rfl Try.isAgg103 Try.sizeOf103 (hcs.ext hS.ext) rfl) ?_
    refine salloc hS Try.zeroValue103 rfl ?_; clear hS; intro b11 w hS
    refine sst hS rfl rfl Try.sizeOf103 rfl rfl rfl rfl ?_; clear hS; intro w hS
    refine nil ?_
    show Code.wp _ _ _ _ _
    refine seq ?_
    refine seq ?_
    refine region ?_
    refine sv (fa103_0 rfl) ?_
    refine sv (yLdB rfl Try.isAgg3 (hS.at _) rfl) ?_
    refine sv (yMove h2) ?_
    refine sv (yGtr rfl rfl) ?_
    refine nil ?_
    show Code.wp _ _ _ _ _
    refine cond rfl (fun c24 => ?_) (fun c24 => ?_)
    ·
      simp only [Bool.and_eq_true, Bool.or_eq_true, Bool.and_eq_false_iff, Bool.or_eq_false_iff, decide_eq_true_eq, decide_eq_false_iff_not, Bool.not_eq_true, Bool.not_eq_false, Bool.not_not, Bool.not_eq_eq_eq_not, Bool.not_true, Bool.not_false, Bool.false_eq_true, Bool.true_eq_false, ne_eq, Decidable.not_not, not_false_eq_true, not_true_eq_false] at c24
      have hK := known_stop hok.rasc hx hle c24
      refine exit ?_
      show Code.wp _ _ _ _ _
      refine seq ?_
      refine block ?_
      refine seq ?_
      refine region ?_
      refine sv (yMove h9) ?_
      refine sv (yNeq rfl rfl) ?_
      refine sv (yAsg rfl) ?_
      refine nil ?_
      show Code.wp _ _ _ _ _
      refine cond rfl (fun c54 => ?_) (fun c54 => ?_)
      ·
        simp only [Bool.and_eq_true, Bool.or_eq_true, Bool.and_eq_false_iff, Bool.or_eq_false_iff, decide_eq_true_eq, decide_eq_false_iff_not, Bool.not_eq_true, Bool.not_eq_false, Bool.not_not, Bool.not_eq_eq_eq_not, Bool.not_true, Bool.not_false, Bool.false_eq_true, Bool.true_eq_false, ne_eq, Decidable.not_not, not_false_eq_true, not_true_eq_false] at c54
        refine seq ?_
        refine region ?_
        refine sv (yBuild Try.zeroValue38 rfl pl38 .nil rfl) ?_
        refine sv (yMove h9) ?_
        refine sst hS h6 rfl Try.sizeOf38 rfl rfl rfl rfl ?_; clear hS; intro w hS
        refine sv (yAsg rfl) ?_
        refine nil ?_
        show Code.wp _ _ _ _ _
        have hk0 : k = 0 := Decidable.byContradiction fun h => c54 (by rw [he, if_neg h])
        subst hk0
        have hfin := saysG_none (t := t) hK
        refine wp_ret (blockR (thenR ?_))
        exact retV (resV2 rfl (rc h6 Try.isAgg38 Try.sizeOf38 (hS.at _) (by rw [hfin]; rfl) rfl) (rt (eqI (by rw [hfin, he]; rfl)))) hS.ext
      ·
        simp only [Bool.and_eq_true, Bool.or_eq_true, Bool.and_eq_false_iff, Bool.or_eq_false_iff, decide_eq_true_eq, decide_eq_false_iff_not, Bool.not_eq_true, Bool.not_eq_false, Bool.not_not, Bool.not_eq_eq_eq_not, Bool.not_true, Bool.not_false, Bool.false_eq_true, Bool.true_eq_false, ne_eq, Decidable.not_not, not_false_eq_true, not_true_eq_false] at c54
        refine seq ?_
        refine region ?_
        refine sv (yLdBA h8 Try.isAgg127 Try.sizeOf127 (hS.at _) rfl rfl) ?_
        refine scall Try.call92 (.cons rfl .nil) c_empty ?_
        rintro _ w ⟨rfl, hE⟩; replace hS := hS.step hE; clear hE
        refine sv (yAsg rfl) ?_
        refine nil ?_
        show Code.wp _ _ _ _ _
        refine cond rfl (fun c59 => ?_) (fun c59 => ?_)
        ·
          simp only [Bool.and_eq_true, Bool.or_eq_true, Bool.and_eq_false_iff, Bool.or_eq_false_iff, decide_eq_true_eq, decide_eq_false_iff_not, Bool.not_eq_true, Bool.not_eq_false, Bool.not_not, Bool.not_eq_eq_eq_not, Bool.not_true, Bool.not_false, Bool.false_eq_true, Bool.true_eq_false, ne_eq, Decidable.not_not, not_false_eq_true, not_true_eq_false] at c59
          refine seq ?_
          refine region ?_
          refine sv (yBuild Try.zeroValue38 rfl pl38 .nil rfl) ?_
          refine sst hS h6 rfl Try.sizeOf38 rfl rfl rfl rfl ?_; clear hS; intro w hS
          refine sv (yAsg rfl) ?_
          refine nil ?_
          show Code.wp _ _ _ _ _
          have hk0 : k ≠ 0 := fun h => by rw [he, if_pos h] at c54; exact absurd c54 (by decide)
          have hfin := saysG_down (t := t) hK (fun h => hk0 ((take_nil_iff hk).1 h)) c59
          refine wp_ret (blockR (thenR ?_))
          exact retV (resV2 rfl (rc h6 Try.isAgg38 Try.sizeOf38 (hS.at _) (by rw [hfin]; rfl) rfl) (rt (eqI (by rw [hfin])))) hS.ext
        ·
          simp only [Bool.and_eq_true, Bool.or_eq_true, Bool.and_eq_false_iff, Bool.or_eq_false_iff, decide_eq_true_eq, decide_eq_false_iff_not, Bool.not_eq_true, Bool.not_eq_false, Bool.not_not, Bool.not_eq_eq_eq_not, Bool.not_true, Bool.not_false, Bool.false_eq_true, Bool.true_eq_false, ne_eq, Decidable.not_not, not_false_eq_true, not_true_eq_false] at c59
          refine skip ?_
          show Code.wp _ _ _ _ _
          refine seq ?_
          refine region ?_
          refine sv (fa127_0 h8) ?_
          refine sv (yLdBA rfl Try.isAgg38 Try.sizeOf38 (hS.at _) rfl rfl) ?_
          refine sst hS h6 rfl Try.sizeOf38 rfl rfl rfl rfl ?_; clear hS; intro w hS
          refine sv (yAsg rfl) ?_
          refine nil ?_
          show Code.wp _ _ _ _ _
          have hk0 : k ≠ 0 := fun h => by rw [he, if_pos h] at c54; exact absurd c54 (by decide)
          have hfin := saysG_ok (t := t) hK (fun h => hk0 ((take_nil_iff hk).1 h)) c59
          refine wp_ret ?_
          exact retV (resV2 rfl (rc h6 Try.isAgg38 Try.sizeOf38 (hS.at _) (by rw [hfin]; rfl) rfl) (rt (eqI (by rw [hfin])))) hS.ext
    ·
      simp only [Bool.and_eq_true, Bool.or_eq_true, Bool.and_eq_false_iff, Bool.or_eq_false_iff, decide_eq_true_eq, decide_eq_false_iff_not, Bool.not_eq_true, Bool.not_eq_false, Bool.not_not, Bool.not_eq_eq_eq_not, Bool.not_true, Bool.not_false, Bool.false_eq_true, Bool.true_eq_false, ne_eq, Decidable.not_not, not_false_eq_true, not_true_eq_false] at c24
      have hro := hok.reads r (List.mem_of_getElem? hx)
      have hrt := hro.tick
      have hrv := hro.value
      have hfb := farR_bd hok ht hro
      have hmb : Bd (g.rate * max (t - r.tick) (r.tick - t)) 0 1000000000 := hfb
      refine skip ?_
      show Code.wp _ _ _ _ _
      refine seq ?_
      refine region ?_
      refine sv (fa34_2 h3) ?_
      refine sv (yLdB rfl Try.isAgg3 (hS.at _) rfl) ?_
      refine sv (yMove h1) ?_
      refine sv (fa103_0 rfl) ?_
      refine sv (yLdB rfl Try.isAgg3 (hS.at _) rfl) ?_
      refine sv (ySub rfl rfl ⟨by omega, by omega⟩) ?_
      refine sv (fa103_0 rfl) ?_
      refine sv (yLdB rfl Try.isAgg3 (hS.at _) rfl) ?_
      refine sv (yMove h1) ?_
      refine sv (ySub rfl rfl ⟨by omega, by omega⟩) ?_
      refine sv (yMax rfl rfl) ?_
      refine sv (yMul rfl rfl ⟨by omega, by omega⟩) ?_
      refine sv (yAsg rfl) ?_
      refine nil ?_
      show Code.wp _ _ _ _ _
      refine seq ?_
      refine region_tail mixed 15 (by kernel_rfl) hS ?_
      obtain ⟨d, hxd, hds, hdok⟩ := datum_at hok hro.tick.1
      have hdl := datI_lt hok hro.tick.1
      obtain ⟨b1, o1, cs1, ha1, hlen1, hcs1, hR1⟩ := hel _ hdl
      obtain rfl : d = g.datums[datI g.datums r.tick] := (List.getElem?_eq_some_iff.1 hxd).2.symm
      generalize g.datums[datI g.datums r.tick] = d at hR1 hds hdok
      obtain ⟨rfl, _⟩ := hR1
      have hdb := hdok.shift
      refine qv (fun w hS => (fa103_1 rfl)) ?_
      refine qv (fun w hS => (yLdB rfl Try.isAgg3 (hS.at _) rfl)) ?_
      refine qv (fun w hS => (fa34_1 h3)) ?_
      refine qv (fun w hS => (yLdB rfl Try.isAgg3 (hS.at _) rfl)) ?_
      refine qv (fun w hS => (yMove rfl)) ?_
      refine qv (fun w hS => (yAdd rfl rfl ⟨by omega, by omega⟩)) ?_
      refine qv (fun w hS => (fa34_3 h3)) ?_
      refine qv (fun w hS => (yLdB rfl Try.isAgg31 (hS.at _) rfl)) ?_
      refine qv (fun w hS => (yLdBA h3 Try.isAgg34 Try.sizeOf34 (hS.at _) rfl rfl)) ?_
      refine qv (fun w hS => (yLdBA rfl Try.isAgg103 Try.sizeOf103 (hS.at _) rfl rfl)) ?_
      refine qcall Try.call89 (.cons rfl (.cons rfl .nil)) (fun w hS => (c_datum (r := r) (hg.ext hS.ext) hok hro.tick.1)) ?_
      refine qv (fun w hS => (yIxa rfl ha1 rfl Try.runUnderlying31 Try.sizeOf78 (by omega) (by omega))) ?_
      refine qv (fun w hS => (fa78_1 rfl)) ?_
      refine qv (fun w hS => (yLdA rfl Try.isAgg38 Try.sizeOf38 ((hcs1.mid (xs := spanC d.shift) 1 rfl).ext hS.ext) rfl)) ?_
      refine qcall Try.call91 (.cons rfl (.cons rfl (.cons rfl .nil))) (fun w hS => (c_around (s := d.shift) ⟨by omega, by omega⟩ ⟨by omega, by omega⟩ ⟨⟨by omega, by omega⟩, ⟨by omega, by omega⟩⟩)) ?_
      clear hS; refine qtl (fun w hS => ?_)
      refine scall Try.call90 (.cons h8 (.cons rfl .nil)) (c_cut (hS.at b8)) ?_; rintro _ w ⟨rfl, hput⟩; replace hS := hS.put hput; clear hput; rw [hds] at hS
      refine nil ?_
      show Code.wp _ _ _ _ _
      refine region ?_
      refine sv (yAsg rfl) ?_
      refine nil ?_
      show Code.wp _ _ _ _ _
      refine region ?_
      refine sv (yAdd h17 rfl ⟨by omega, by omega⟩) ?_
      refine sv (yMove rfl) ?_
      refine nil ?_
      exact ⟨_, _, rfl, ⟨k + 1, 0, h1, h2, h3, h6, h8, rfl, h15, h16, rfl, (by rw [take_snoc hx, cuts_snoc]; exact hS.sub (.cons _ (List.Sublist.refl _))), (by omega), (rfl), (fun x hx' => by rw [take_snoc hx] at hx'; rcases List.mem_append.1 hx' with h | h; exact hle x h; rw [List.mem_singleton.1 h]; omega), rfl⟩, by omega⟩
  ·
    simp only [Bool.and_eq_true, Bool.or_eq_true, Bool.and_eq_false_iff, Bool.or_eq_false_iff, decide_eq_true_eq, decide_eq_false_iff_not, Bool.not_eq_true, Bool.not_eq_false, Bool.not_not, Bool.not_eq_eq_eq_not, Bool.not_true, Bool.not_false, Bool.false_eq_true, Bool.true_eq_false, ne_eq, Decidable.not_not, not_false_eq_true, not_true_eq_false] at c18
    have hK : known g.readings now = g.readings.take k := by rw [List.take_of_length_le (by omega)] at hle ⊢; exact known_all hle
    refine exit ?_
    show Code.wp _ _ _ _ _
    refine seq ?_
    refine block ?_
    refine seq ?_
    refine region ?_
    refine sv (yMove h9) ?_
    refine sv (yNeq rfl rfl) ?_
    refine sv (yAsg rfl) ?_
    refine nil ?_
    show Code.wp _ _ _ _ _
    refine cond rfl (fun c54 => ?_) (fun c54 => ?_)
    ·
      simp only [Bool.and_eq_true, Bool.or_eq_true, Bool.and_eq_false_iff, Bool.or_eq_false_iff, decide_eq_true_eq, decide_eq_false_iff_not, Bool.not_eq_true, Bool.not_eq_false, Bool.not_not, Bool.not_eq_eq_eq_not, Bool.not_true, Bool.not_false, Bool.false_eq_true, Bool.true_eq_false, ne_eq, Decidable.not_not, not_false_eq_true, not_true_eq_false] at c54
      refine seq ?_
      refine region ?_
      refine sv (yBuild Try.zeroValue38 rfl pl38 .nil rfl) ?_
      refine sv (yMove h9) ?_
      refine sst hS h6 rfl Try.sizeOf38 rfl rfl rfl rfl ?_; clear hS; intro w hS
      refine sv (yAsg rfl) ?_
      refine nil ?_
      show Code.wp _ _ _ _ _
      have hk0 : k = 0 := Decidable.byContradiction fun h => c54 (by rw [he, if_neg h])
      subst hk0
      have hfin := saysG_none (t := t) hK
      refine wp_ret (blockR (thenR ?_))
      exact retV (resV2 rfl (rc h6 Try.isAgg38 Try.sizeOf38 (hS.at _) (by rw [hfin]; rfl) rfl) (rt (eqI (by rw [hfin, he]; rfl)))) hS.ext
    ·
      simp only [Bool.and_eq_true, Bool.or_eq_true, Bool.and_eq_false_iff, Bool.or_eq_false_iff, decide_eq_true_eq, decide_eq_false_iff_not, Bool.not_eq_true, Bool.not_eq_false, Bool.not_not, Bool.not_eq_eq_eq_not, Bool.not_true, Bool.not_false, Bool.false_eq_true, Bool.true_eq_false, ne_eq, Decidable.not_not, not_false_eq_true, not_true_eq_false] at c54
      refine seq ?_
      refine region ?_
      refine sv (yLdBA h8 Try.isAgg127 Try.sizeOf127 (hS.at _) rfl rfl) ?_
      refine scall Try.call92 (.cons rfl .nil) c_empty ?_
      rintro _ w ⟨rfl, hE⟩; replace hS := hS.step hE; clear hE
      refine sv (yAsg rfl) ?_
      refine nil ?_
      show Code.wp _ _ _ _ _
      refine cond rfl (fun c59 => ?_) (fun c59 => ?_)
      ·
        simp only [Bool.and_eq_true, Bool.or_eq_true, Bool.and_eq_false_iff, Bool.or_eq_false_iff, decide_eq_true_eq, decide_eq_false_iff_not, Bool.not_eq_true, Bool.not_eq_false, Bool.not_not, Bool.not_eq_eq_eq_not, Bool.not_true, Bool.not_false, Bool.false_eq_true, Bool.true_eq_false, ne_eq, Decidable.not_not, not_false_eq_true, not_true_eq_false] at c59
        refine seq ?_
        refine region ?_
        refine sv (yBuild Try.zeroValue38 rfl pl38 .nil rfl) ?_
        refine sst hS h6 rfl Try.sizeOf38 rfl rfl rfl rfl ?_; clear hS; intro w hS
        refine sv (yAsg rfl) ?_
        refine nil ?_
        show Code.wp _ _ _ _ _
        have hk0 : k ≠ 0 := fun h => by rw [he, if_pos h] at c54; exact absurd c54 (by decide)
        have hfin := saysG_down (t := t) hK (fun h => hk0 ((take_nil_iff hk).1 h)) c59
        refine wp_ret (blockR (thenR ?_))
        exact retV (resV2 rfl (rc h6 Try.isAgg38 Try.sizeOf38 (hS.at _) (by rw [hfin]; rfl) rfl) (rt (eqI (by rw [hfin])))) hS.ext
      ·
        simp only [Bool.and_eq_true, Bool.or_eq_true, Bool.and_eq_false_iff, Bool.or_eq_false_iff, decide_eq_true_eq, decide_eq_false_iff_not, Bool.not_eq_true, Bool.not_eq_false, Bool.not_not, Bool.not_eq_eq_eq_not, Bool.not_true, Bool.not_false, Bool.false_eq_true, Bool.true_eq_false, ne_eq, Decidable.not_not, not_false_eq_true, not_true_eq_false] at c59
        refine skip ?_
        show Code.wp _ _ _ _ _
        refine seq ?_
        refine region ?_
        refine sv (fa127_0 h8) ?_
        refine sv (yLdBA rfl Try.isAgg38 Try.sizeOf38 (hS.at _) rfl rfl) ?_
        refine sst hS h6 rfl Try.sizeOf38 rfl rfl rfl rfl ?_; clear hS; intro w hS
        refine sv (yAsg rfl) ?_
        refine nil ?_
        show Code.wp _ _ _ _ _
        have hk0 : k ≠ 0 := fun h => by rw [he, if_pos h] at c54; exact absurd c54 (by decide)
        have hfin := saysG_ok (t := t) hK (fun h => hk0 ((take_nil_iff hk).1 h)) c59
        refine wp_ret ?_
        exact retV (resV2 rfl (rc h6 Try.isAgg38 Try.sizeOf38 (hS.at _) (by rw [hfin]; rfl) rfl) (rt (eqI (by rw [hfin])))) hS.ext
end Go.Proofs.Ytpgmehignepidaa
