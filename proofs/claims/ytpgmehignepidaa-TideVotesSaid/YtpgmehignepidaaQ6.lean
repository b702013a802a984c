/- Merged texts, part 6. -/
import Derived.Test.YtpgmehignepidaaQ5
set_option linter.all false
/- part Wk34 -/
namespace Go.Proofs.Ytpgmehignepidaa
open Go Bx
set_option maxHeartbeats 1000000 in
/-- barrage/barragelaw01.agreed -/
theorem c_lagreed {l : List Gauge} {v : Value} {x t now : Int} {w0 : World} (hl : Sl w0 5 RGauge v l) (hg0 : gaugesE l t now = 0) (ht : I64 t) (hn : I64 now) : CV Try.prog 42 #[v, .int .i64 x, .int .i64 t, .int .i64 now] w0 (.int .i64 (cntG t now l x : Int)) := by
  obtain ⟨a, cap, rfl, hcap, hmx, hel⟩ := id hl
  obtain ⟨hln8, hok, hnd, htk⟩ := gaugesE_zero hg0
  have hck := gauges_checks hg0
  refine enter Try.func42 rfl Try.ntmps42 rfl ?_
  have hS := St.start w0
  refine seq ?_
  refine region ?_
  refine sv (yAsg rfl) ?_
  refine nil ?_
  show Code.wp _ _ _ _ _
  refine seq ?_
  refine region ?_
  refine sv (yAsg rfl) ?_
  refine nil ?_
  show Code.wp _ _ _ _ _
  refine seq ?_
  refine seq ?_
  refine region ?_
  refine sv (yAsg rfl) ?_
  refine nil ?_
  show Code.wp _ _ _ _ _
  refine block ?_
  refine loop (fun f w zz => ∃ (k : Nat), f 0 = .slice a l.length cap ∧ f 1 = .int .i64 x ∧ f 2 = .int .i64 t ∧ f 3 = .int .i64 now ∧ f 9 = .int .i64 (cntG t now (l.take k) x : Int) ∧ f 10 = .int .i64 (k : Int) ∧ StX [] w0 w [] ∧ (k ≤ l.length) ∧ zz = l.length - k) _ ⟨_, rfl, 0, rfl, rfl, rfl, rfl, rfl, rfl, hS, (Nat.zero_le _), rfl⟩ ?_
  clear hS
  rintro f w _ ⟨k, h0, h1, h2, h3, h9, h10, hS, hk, rfl⟩
  refine seq ?_
  refine seq ?_
  refine region ?_
  refine sv (yMove h10) ?_
  refine sv (yMove h0) ?_
  refine sv (yLen rfl Try.underlying66) ?_
  refine sv (yLss rfl rfl) ?_
  refine nil ?_
  show Code.wp _ _ _ _ _
  refine cond rfl (fun c16 => ?_) (fun c16 => ?_)
  ·
    simp only [Bool.and_eq_true, Bool.or_eq_true, Bool.and_eq_false_iff, Bool.or_eq_false_iff, decide_eq_true_eq, decide_eq_false_iff_not, Bool.not_eq_true, Bool.not_eq_false, Bool.not_not, Bool.not_eq_eq_eq_not, Bool.not_true, Bool.not_false, Bool.false_eq_true, Bool.true_eq_false, ne_eq, Decidable.not_not, not_false_eq_true, not_true_eq_false] at c16
    obtain ⟨u, hx, hd⟩ := drop_of (l := l) (k := k) (by omega)
    obtain ⟨b, o, cs, ha, hlen, hcs, hR⟩ := hel (k) (by omega)
    obtain rfl : u = l[k] := (List.getElem?_eq_some_iff.1 hx).2.symm
    generalize l[k] = u at hx hd hR
    have hg := hR
    have hcl := cntG_le t now x (l.take k)
    have htl : (l.take k).length ≤ 8 := by simp; omega
    have hsf := saysF_G (hck u (List.mem_of_getElem? hx)) htk
    refine skip ?_
    show Code.wp _ _ _ _ _
    refine seq ?_
    refine block ?_
    refine seq ?_
    refine region ?_
    refine sv (yMove h0) ?_
    refine sv (yMove h10) ?_
    refine sv (yIxa rfl ha rfl Try.runUnderlying66 Try.sizeOf34 (by omega) (by omega)) ?_
    refine sv (yLdA rfl Try.isAgg34 Try.sizeOf34 (hcs.ext hS.ext) hlen) ?_
    refine sv (yMove h2) ?_
    refine sv (yMove h3) ?_
    refine scall Try.call26 (.cons rfl (.cons rfl (.cons rfl .nil))) (c_Says (hg.ext hS.ext) ht hn) ?_
    rw [hsf]
    rintro _ w ⟨rfl, hE⟩; replace hS := hS.step hE; clear hE
    refine sv (yMove rfl) ?_
    refine sv (yExt rfl rfl) ?_
    refine sv (yExt rfl rfl) ?_
    refine salloc hS Try.zeroValue38 rfl ?_; clear hS; intro b11 w hS
    refine sst hS rfl rfl Try.sizeOf38 rfl rfl rfl rfl ?_; clear hS; intro w hS
    refine sv (yAsg rfl) ?_
    refine nil ?_
    show Code.wp _ _ _ _ _
    refine seq ?_
    refine region ?_
    refine sv (yMove rfl) ?_
    refine sv (yEql rfl rfl) ?_
    refine sv (yMove rfl) ?_
    refine sg rfl rfl rfl (fun g => (yLdBA rfl Try.isAgg38 Try.sizeOf38 (hS.at _) rfl rfl)) (fun v32 g32 => ?_)
    refine sg rfl rfl rfl (fun g => (yMove h1)) (fun v33 g33 => ?_)
    refine sgc hS rfl rfl rfl Try.call29 (fun g => (.cons (g32.1 g) (.cons (g33.1 g) .nil))) (fun g => c_has) ?_; clear hS; intro v34 w hS g34
    refine sv (yAnd rfl (fun hB => (g34.1 hB)) rfl) ?_
    refine nil ?_
    show Code.wp _ _ _ _ _
    refine cond rfl (fun c35 => ?_) (fun c35 => ?_)
    ·
      change hasG t now u x = _ at c35
      refine region ?_
      refine sv (yMove h9) ?_
      refine sv (yAdd rfl rfl ⟨by omega, by omega⟩) ?_
      refine sv (yAsg rfl) ?_
      refine nil ?_
      show Code.wp _ _ _ _ _
      refine region ?_
      refine sv (yMove h10) ?_
      refine sv (yAdd rfl rfl ⟨by omega, by omega⟩) ?_
      refine sv (yAsg rfl) ?_
      refine nil ?_
      exact ⟨_, _, rfl, ⟨k + 1, h0, h1, h2, h3, (by rw [cntG_take hx, if_pos c35]; exact rfl), rfl, (hS.sub (List.nil_sublist _)), (by omega), rfl⟩, by omega⟩
    ·
      change hasG t now u x = _ at c35
      refine skip ?_
      show Code.wp _ _ _ _ _
      refine region ?_
      refine sv (yMove h10) ?_
      refine sv (yAdd rfl rfl ⟨by omega, by omega⟩) ?_
      refine sv (yAsg rfl) ?_
      refine nil ?_
      exact ⟨_, _, rfl, ⟨k + 1, h0, h1, h2, h3, (by rw [cntG_take hx, if_neg (by rw [c35]; decide)]; exact h9), rfl, (hS.sub (List.nil_sublist _)), (by omega), rfl⟩, by omega⟩
  ·
    simp only [Bool.and_eq_true, Bool.or_eq_true, Bool.and_eq_false_iff, Bool.or_eq_false_iff, decide_eq_true_eq, decide_eq_false_iff_not, Bool.not_eq_true, Bool.not_eq_false, Bool.not_not, Bool.not_eq_eq_eq_not, Bool.not_true, Bool.not_false, Bool.false_eq_true, Bool.true_eq_false, ne_eq, Decidable.not_not, not_false_eq_true, not_true_eq_false] at c16
    obtain rfl : k = l.length := by omega
    rw [List.take_length] at h9
    refine exit ?_
    show Code.wp _ _ _ _ _
    refine seq ?_
    refine region ?_
    refine sv (yMove h9) ?_
    refine sv (yAsg rfl) ?_
    refine nil ?_
    show Code.wp _ _ _ _ _
    refine wp_ret ?_
    exact retV (res1 rfl rfl) hS.ext
end Go.Proofs.Ytpgmehignepidaa
/- part Wk35 -/
namespace Go.Proofs.Ytpgmehignepidaa
open Go Bx
set_option maxHeartbeats 4000000 in
/-- barrage/barragelaw01.TideVotes -/
theorem w_TideVotes {l : List Gauge} {v : Value} {xs : List Value} {x : At} {level : Int} {w0 : World} (hl : Sl w0 5 RGauge v l) (hx : RAt w0 xs x) (hlv : I64 level) : CV Try.prog 11 #[v, .agg xs.toArray, .int .i64 level] w0 (.bool true) := by
  obtain ⟨a0, cap, rfl, hcap, hmx, hel⟩ := id hl
  obtain ⟨wrong, t, now⟩ := x
  replace hx : xs = [.int .i64 wrong, .int .i64 t, .int .i64 now] ∧ I64 wrong ∧ I64 t ∧ I64 now := hx
  obtain ⟨rfl, hw, ht, hn⟩ := hx
  refine enter Try.func11 rfl Try.ntmps11 rfl ?_
  have hS := St.start w0
  refine seq ?_
  refine region ?_
  refine sbox hS rfl rfl ?_; clear hS; intro b4 w hS
  refine sv (yAsg rfl) ?_
  refine nil ?_
  show Code.wp _ _ _ _ _
  refine seq ?_
  refine region ?_
  refine sv (yMove rfl) ?_
  refine sv (fa68_1 rfl) ?_
  refine sv (yLdB rfl Try.isAgg3 (hS.at _) rfl) ?_
  refine sv (fa68_2 rfl) ?_
  refine sv (yLdB rfl Try.isAgg3 (hS.at _) rfl) ?_
  refine scall Try.call39 (.cons rfl (.cons rfl (.cons rfl .nil))) (c_Agree (hl.ext RGauge.stays hS.ext) ht hn) ?_
  rintro _ w ⟨ov, rfl, hM⟩; replace hS := hS.call1 hM; clear hM; obtain ⟨ao, co, rfl⟩ := row_shape (hS.row ov)
  refine sv (yMove rfl) ?_
  refine sv (yExt rfl rfl) ?_
  refine sv (yExt rfl rfl) ?_
  refine sv (yExt rfl rfl) ?_
  refine sv (yAsg rfl) ?_
  refine sv (yAsg rfl) ?_
  refine sv (yAsg rfl) ?_
  refine nil ?_
  show Code.wp _ _ _ _ _
  refine seq ?_
  refine region ?_
  refine sv (yMove rfl) ?_
  refine sv (fa68_0 rfl) ?_
  refine sv (yLdB rfl Try.isAgg3 (hS.at _) rfl) ?_
  refine sv (fa68_1 rfl) ?_
  refine sv (yLdB rfl Try.isAgg3 (hS.at _) rfl) ?_
  refine sv (fa68_2 rfl) ?_
  refine sv (yLdB rfl Try.isAgg3 (hS.at _) rfl) ?_
  refine scall Try.call37 (.cons rfl (.cons rfl (.cons rfl (.cons rfl .nil)))) (c_Sound (hl.ext RGauge.stays hS.ext) hw ht hn) ?_
  rintro _ w ⟨rfl, hE⟩; replace hS := hS.step hE; clear hE
  refine sv (yMove rfl) ?_
  refine sv (yExt rfl rfl) ?_
  refine sv (yExt rfl rfl) ?_
  refine salloc hS Try.zeroValue38 rfl ?_; clear hS; intro b10 w hS
  refine sst hS rfl rfl Try.sizeOf38 rfl rfl rfl rfl ?_; clear hS; intro w hS
  refine sv (yAsg rfl) ?_
  refine nil ?_
  show Code.wp _ _ _ _ _
  refine seq ?_
  refine seq ?_
  refine region ?_
  refine sv (yMove rfl) ?_
  refine sv (yNeq rfl rfl) ?_
  refine sv (yMove rfl) ?_
  refine sg rfl rfl rfl (fun g => (fa68_0 rfl)) (fun v39 g39 => ?_)
  refine sg rfl rfl rfl (fun g => (yLdB (g39.1 g) Try.isAgg3 (hS.at _) rfl)) (fun v40 g40 => ?_)
  refine sg rfl rfl rfl (fun g => (yLss (g40.1 g) rfl)) (fun v41 g41 => ?_)
  refine sv (yOr rfl rfl (fun hB => (g41.1 hB))) ?_
  refine sv (yMove rfl) ?_
  refine sg rfl rfl rfl (fun g => (fa68_0 rfl)) (fun v44 g44 => ?_)
  refine sg rfl rfl rfl (fun g => (yLdB (g44.1 g) Try.isAgg3 (hS.at _) rfl)) (fun v45 g45 => ?_)
  refine sg rfl rfl rfl (fun g => (yMove rfl)) (fun v46 g46 => ?_)
  refine sg rfl rfl rfl (fun g => (yLen (g46.1 g) Try.underlying66)) (fun v47 g47 => ?_)
  refine sg rfl rfl rfl (fun g => (yGeq (g45.1 g) (g47.1 g))) (fun v48 g48 => ?_)
  refine sv (yOr rfl rfl (fun hB => (g48.1 hB))) ?_
  refine nil ?_
  show Code.wp _ _ _ _ _
  refine cond rfl (fun c49 => ?_) (fun c49 => ?_)
  ·
    simp only [Bool.and_eq_true, Bool.or_eq_true, Bool.and_eq_false_iff, Bool.or_eq_false_iff, decide_eq_true_eq, decide_eq_false_iff_not, Bool.not_eq_true, Bool.not_eq_false, Bool.not_not, Bool.not_eq_eq_eq_not, Bool.not_true, Bool.not_false, Bool.false_eq_true, Bool.true_eq_false, ne_eq, Decidable.not_not, not_false_eq_true, not_true_eq_false, agree_e] at c49
    have hsf : (soundF l wrong t now).2 ≠ 0 := soundF_bad (by omega)
    refine seq ?_
    refine region ?_
    refine sv (yMove rfl) ?_
    refine sv (yNeq rfl rfl) ?_
    refine sv (yMove rfl) ?_
    refine sgc hS rfl rfl rfl Try.call23 (fun g => .nil) (fun g => c_Awake) ?_; clear hS; intro v53 w hS g53
    refine sv (yAnd rfl (fun hB => (g53.1 hB)) rfl) ?_
    refine sv (yAsg rfl) ?_
    refine nil ?_
    show Code.wp _ _ _ _ _
    refine wp_ret (thenR ?_)
    exact retV (res1 rfl (eqB (by simp [hsf]))) hS.ext
  ·
    simp only [Bool.and_eq_true, Bool.or_eq_true, Bool.and_eq_false_iff, Bool.or_eq_false_iff, decide_eq_true_eq, decide_eq_false_iff_not, Bool.not_eq_true, Bool.not_eq_false, Bool.not_not, Bool.not_eq_eq_eq_not, Bool.not_true, Bool.not_false, Bool.false_eq_true, Bool.true_eq_false, ne_eq, Decidable.not_not, not_false_eq_true, not_true_eq_false, agree_e] at c49
    have hg0 : gaugesE l t now = 0 := by omega
    have hwl : 0 ≤ wrong ∧ wrong < l.length := by omega
    have hE0 : soundE l wrong t now = 0 := soundE_ok (fun k => k hg0) (outB_false.2 ⟨by omega, by omega⟩)
    have hway := sound_way hE0
    have hcm := cnt_le_many hg0
    have hot := others_le hg0
    obtain ⟨hln8, -⟩ := gaugesE_zero hg0
    refine skip ?_
    show Code.wp _ _ _ _ _
    refine seq ?_
    refine cutK (fun f => f 0 = .slice a0 l.length cap ∧ f 2 = .int .i64 level ∧ f 4 = .pointer (some ⟨b4, 0, none⟩) ∧ f 7 = .int .i64 (agreeF l t now).1 ∧ f 8 = .slice ao (agreeF l t now).2.1.length co ∧ f 10 = .pointer (some ⟨b10, 0, none⟩) ∧ f 11 = .int .i64 (soundF l wrong t now).2 ∧ True) ⟨rfl, rfl, rfl, rfl, rfl, rfl, rfl, trivial⟩ ?_
    rintro f ⟨h0, h2, h4, h7, h8, h10, h11, -⟩
    refine region ?_
    refine sv (yMove h0) ?_
    refine sv (yLen rfl Try.underlying66) ?_
    refine sv (fa68_0 h4) ?_
    refine sv (yLdB rfl Try.isAgg3 (hS.at _) rfl) ?_
    refine sv (ySub rfl rfl ⟨by omega, by omega⟩) ?_
    refine sv (yAsg rfl) ?_
    refine nil ?_
    show Code.wp _ _ _ _ _
    refine seq ?_
    refine seq ?_
    refine region ?_
    refine sv (yMove h11) ?_
    refine sv (yNeq rfl rfl) ?_
    refine nil ?_
    show Code.wp _ _ _ _ _
    refine cond rfl (fun c61 => ?_) (fun c61 => ?_)
    ·
      simp only [Bool.and_eq_true, Bool.or_eq_true, Bool.and_eq_false_iff, Bool.or_eq_false_iff, decide_eq_true_eq, decide_eq_false_iff_not, Bool.not_eq_true, Bool.not_eq_false, Bool.not_not, Bool.not_eq_eq_eq_not, Bool.not_true, Bool.not_false, Bool.false_eq_true, Bool.true_eq_false, ne_eq, Decidable.not_not, not_false_eq_true, not_true_eq_false] at c61
      obtain ⟨hf, hall⟩ := hway.resolve_right (fun ⟨a, b, k, _⟩ => by rw [k] at c61; exact c61 rfl)
      have hml := many_lt hg0 (by omega) hall
      have hlv2 := hall level
      refine seq ?_
      refine region ?_
      refine sv (yMove h11) ?_
      refine sv (yEql rfl rfl) ?_
      refine sv (yMove rfl) ?_
      refine sg rfl rfl rfl (fun g => (yMove h7)) (fun v65 g65 => ?_)
      refine sg rfl rfl rfl (fun g => (yMove rfl)) (fun v66 g66 => ?_)
      refine sg rfl rfl rfl (fun g => (yLss (g65.1 g) (g66.1 g))) (fun v67 g67 => ?_)
      refine sv (yAnd rfl (fun hB => (g67.1 hB)) rfl) ?_
      refine sv (yMove rfl) ?_
      refine sg rfl rfl rfl (fun g => (yMove h0)) (fun v70 g70 => ?_)
      refine sg rfl rfl rfl (fun g => (yMove h2)) (fun v71 g71 => ?_)
      refine sg rfl rfl rfl (fun g => (fa68_1 h4)) (fun v72 g72 => ?_)
      refine sg rfl rfl rfl (fun g => (yLdB (g72.1 g) Try.isAgg3 (hS.at _) rfl)) (fun v73 g73 => ?_)
      refine sg rfl rfl rfl (fun g => (fa68_2 h4)) (fun v74 g74 => ?_)
      refine sg rfl rfl rfl (fun g => (yLdB (g74.1 g) Try.isAgg3 (hS.at _) rfl)) (fun v75 g75 => ?_)
      refine sgc hS rfl rfl rfl Try.call42 (fun g => (.cons (g70.1 g) (.cons (g71.1 g) (.cons (g73.1 g) (.cons (g75.1 g) .nil))))) (fun g => (c_lagreed (hl.ext RGauge.stays hS.ext) hg0 ht hn)) ?_; clear hS; intro v76 w hS g76
      refine sg rfl rfl rfl (fun g => (yMove rfl)) (fun v77 g77 => ?_)
      refine sg rfl rfl rfl (fun g => (yLss (g76.1 g) (g77.1 g))) (fun v78 g78 => ?_)
      refine sv (yAnd rfl (fun hB => (g78.1 hB)) rfl) ?_
      refine sv (yMove rfl) ?_
      refine sgc hS rfl rfl rfl Try.call23 (fun g => .nil) (fun g => c_Awake) ?_; clear hS; intro v81 w hS g81
      refine sv (yAnd rfl (fun hB => (g81.1 hB)) rfl) ?_
      refine sv (yAsg rfl) ?_
      refine nil ?_
      show Code.wp _ _ _ _ _
      refine wp_ret (thenR ?_)
      exact retV (res1 rfl (eqB (by rw [hf]; simp; omega))) hS.ext
    ·
      simp only [Bool.and_eq_true, Bool.or_eq_true, Bool.and_eq_false_iff, Bool.or_eq_false_iff, decide_eq_true_eq, decide_eq_false_iff_not, Bool.not_eq_true, Bool.not_eq_false, Bool.not_not, Bool.not_eq_eq_eq_not, Bool.not_true, Bool.not_false, Bool.false_eq_true, Bool.true_eq_false, ne_eq, Decidable.not_not, not_false_eq_true, not_true_eq_false] at c61
      obtain ⟨a, b, hf, hca, hcb, hab⟩ := hway.resolve_left (fun ⟨k, _⟩ => by rw [k] at c61; cases c61)
      have hma := hcm a
      have hmb := hcm b
      have hml := hcm level
      refine skip ?_
      show Code.wp _ _ _ _ _
      refine seq ?_
      refine seq ?_
      refine cutK (fun f => f 0 = .slice a0 l.length cap ∧ f 2 = .int .i64 level ∧ f 4 = .pointer (some ⟨b4, 0, none⟩) ∧ f 7 = .int .i64 (agreeF l t now).1 ∧ f 8 = .slice ao (agreeF l t now).2.1.length co ∧ f 10 = .pointer (some ⟨b10, 0, none⟩) ∧ f 11 = .int .i64 (soundF l wrong t now).2 ∧ f 12 = .int .i64 ((l.length : Int) - wrong) ∧ True) ⟨h0, h2, h4, h7, h8, h10, h11, rfl, trivial⟩ ?_
      rintro f ⟨h0, h2, h4, h7, h8, h10, h11, h12, -⟩
      refine region ?_
      refine sv (yMove h7) ?_
      refine sv (yMove h12) ?_
      refine sv (yLss rfl rfl) ?_
      refine sv (yMove rfl) ?_
      refine sg rfl rfl rfl (fun g => (yMove h8)) (fun v87 g87 => ?_)
      refine sg rfl rfl rfl (fun g => (yLen (g87.1 g) Try.underlying44)) (fun v88 g88 => ?_)
      refine sg rfl rfl rfl (fun g => (yMove h0)) (fun v89 g89 => ?_)
      refine sg rfl rfl rfl (fun g => (yLen (g89.1 g) Try.underlying66)) (fun v90 g90 => ?_)
      refine sg rfl rfl rfl (fun g => (yMove h7)) (fun v91 g91 => ?_)
      refine sg rfl rfl rfl (fun g => (ySub (g90.1 g) (g91.1 g) ⟨by omega, by omega⟩)) (fun v92 g92 => ?_)
      refine sg rfl rfl rfl (fun g => (yGtr (g88.1 g) (g92.1 g))) (fun v93 g93 => ?_)
      refine sv (yOr rfl rfl (fun hB => (g93.1 hB))) ?_
      refine sv (yMove rfl) ?_
      refine sg rfl rfl rfl (fun g => (yMove h0)) (fun v96 g96 => ?_)
      refine sg rfl rfl rfl (fun g => (fa38_0 h10)) (fun v97 g97 => ?_)
      refine sg rfl rfl rfl (fun g => (yLdB (g97.1 g) Try.isAgg3 (hS.at _) rfl)) (fun v98 g98 => ?_)
      refine sg rfl rfl rfl (fun g => (fa68_1 h4)) (fun v99 g99 => ?_)
      refine sg rfl rfl rfl (fun g => (yLdB (g99.1 g) Try.isAgg3 (hS.at _) rfl)) (fun v100 g100 => ?_)
      refine sg rfl rfl rfl (fun g => (fa68_2 h4)) (fun v101 g101 => ?_)
      refine sg rfl rfl rfl (fun g => (yLdB (g101.1 g) Try.isAgg3 (hS.at _) rfl)) (fun v102 g102 => ?_)
      refine sgc hS rfl rfl rfl Try.call42 (fun g => (.cons (g96.1 g) (.cons (g98.1 g) (.cons (g100.1 g) (.cons (g102.1 g) .nil))))) (fun g => (c_lagreed (hl.ext RGauge.stays hS.ext) hg0 ht hn)) ?_; clear hS; intro v103 w hS g103
      refine sg rfl rfl rfl (fun g => (yMove h12)) (fun v104 g104 => ?_)
      refine sg rfl rfl rfl (fun g => (yLss (g103.1 g) (g104.1 g))) (fun v105 g105 => ?_)
      refine sv (yOr rfl rfl (fun hB => (g105.1 hB))) ?_
      refine sv (yMove rfl) ?_
      refine sg rfl rfl rfl (fun g => (yMove h0)) (fun v108 g108 => ?_)
      refine sg rfl rfl rfl (fun g => (fa38_1 h10)) (fun v109 g109 => ?_)
      refine sg rfl rfl rfl (fun g => (yLdB (g109.1 g) Try.isAgg3 (hS.at _) rfl)) (fun v110 g110 => ?_)
      refine sg rfl rfl rfl (fun g => (fa68_1 h4)) (fun v111 g111 => ?_)
      refine sg rfl rfl rfl (fun g => (yLdB (g111.1 g) Try.isAgg3 (hS.at _) rfl)) (fun v112 g112 => ?_)
      refine sg rfl rfl rfl (fun g => (fa68_2 h4)) (fun v113 g113 => ?_)
      refine sg rfl rfl rfl (fun g => (yLdB (g113.1 g) Try.isAgg3 (hS.at _) rfl)) (fun v114 g114 => ?_)
      refine sgc hS rfl rfl rfl Try.call42 (fun g => (.cons (g108.1 g) (.cons (g110.1 g) (.cons (g112.1 g) (.cons (g114.1 g) .nil))))) (fun g => (c_lagreed (hl.ext RGauge.stays hS.ext) hg0 ht hn)) ?_; clear hS; intro v115 w hS g115
      refine sg rfl rfl rfl (fun g => (yMove h12)) (fun v116 g116 => ?_)
      refine sg rfl rfl rfl (fun g => (yLss (g115.1 g) (g116.1 g))) (fun v117 g117 => ?_)
      refine sv (yOr rfl rfl (fun hB => (g117.1 hB))) ?_
      refine nil ?_
      show Code.wp _ _ _ _ _
      refine cond rfl (fun c118 => ?_) (fun c118 => ?_)
      ·
        rw [hf] at c118; simp only [Bool.and_eq_true, Bool.or_eq_true, Bool.and_eq_false_iff, Bool.or_eq_false_iff, decide_eq_true_eq, decide_eq_false_iff_not, Bool.not_eq_true, Bool.not_eq_false, Bool.not_not, Bool.not_eq_eq_eq_not, Bool.not_true, Bool.not_false, Bool.false_eq_true, Bool.true_eq_false, ne_eq, Decidable.not_not, not_false_eq_true, not_true_eq_false] at c118
        exfalso; omega
      ·
        rw [hf] at c118; simp only [Bool.and_eq_true, Bool.or_eq_true, Bool.and_eq_false_iff, Bool.or_eq_false_iff, decide_eq_true_eq, decide_eq_false_iff_not, Bool.not_eq_true, Bool.not_eq_false, Bool.not_not, Bool.not_eq_eq_eq_not, Bool.not_true, Bool.not_false, Bool.false_eq_true, Bool.true_eq_false, ne_eq, Decidable.not_not, not_false_eq_true, not_true_eq_false] at c118
        refine skip ?_
        show Code.wp _ _ _ _ _
        refine seq ?_
        refine seq ?_
        refine cutK (fun f => f 0 = .slice a0 l.length cap ∧ f 2 = .int .i64 level ∧ f 4 = .pointer (some ⟨b4, 0, none⟩) ∧ f 7 = .int .i64 (agreeF l t now).1 ∧ f 8 = .slice ao (agreeF l t now).2.1.length co ∧ f 10 = .pointer (some ⟨b10, 0, none⟩) ∧ f 11 = .int .i64 (soundF l wrong t now).2 ∧ f 12 = .int .i64 ((l.length : Int) - wrong) ∧ True) ⟨h0, h2, h4, h7, h8, h10, h11, h12, trivial⟩ ?_
        rintro f ⟨h0, h2, h4, h7, h8, h10, h11, h12, -⟩
        refine region ?_
        refine sv (yMove h0) ?_
        refine sv (yMove h2) ?_
        refine sv (fa68_1 h4) ?_
        refine sv (yLdB rfl Try.isAgg3 (hS.at _) rfl) ?_
        refine sv (fa68_2 h4) ?_
        refine sv (yLdB rfl Try.isAgg3 (hS.at _) rfl) ?_
        refine scall Try.call42 (.cons rfl (.cons rfl (.cons rfl (.cons rfl .nil)))) (c_lagreed (hl.ext RGauge.stays hS.ext) hg0 ht hn) ?_
        rintro _ w ⟨rfl, hE⟩; replace hS := hS.step hE; clear hE
        refine sv (yAsg rfl) ?_
        refine nil ?_
        show Code.wp _ _ _ _ _
        refine seq ?_
        refine region ?_
        refine sv (yMove rfl) ?_
        refine sv (yMove h7) ?_
        refine sv (yGtr rfl rfl) ?_
        refine sv (yMove rfl) ?_
        refine sg rfl rfl rfl (fun g => (yMove rfl)) (fun v130 g130 => ?_)
        refine sg rfl rfl rfl (fun g => (yMove h12)) (fun v131 g131 => ?_)
        refine sg rfl rfl rfl (fun g => (yGeq (g130.1 g) (g131.1 g))) (fun v132 g132 => ?_)
        refine sg rfl rfl rfl (fun g => (yMove (g132.1 g))) (fun v133 g133 => ?_)
        refine sgg rfl rfl g133 (fun g => (yLdBA h10 Try.isAgg38 Try.sizeOf38 (hS.at _) rfl rfl)) (fun v134 g134 => ?_)
        refine sgg rfl rfl g133 (fun g => (yMove h2)) (fun v135 g135 => ?_)
        refine sggc hS rfl rfl g133 Try.call29 (fun g => (.cons (g134.1 g) (.cons (g135.1 g) .nil))) (fun g => c_has) ?_; clear hS; intro v136 w hS g136
        refine sgg rfl rfl g133 (fun g => (yNot (g136.1 g))) (fun v137 g137 => ?_)
        refine sg rfl rfl rfl (fun g => (yAnd (g133.1 g) (fun hB => (g137.1 ⟨g, hB⟩)) rfl)) (fun v138 g138 => ?_)
        refine sv (yOr rfl rfl (fun hB => (g138.1 hB))) ?_
        refine nil ?_
        show Code.wp _ _ _ _ _
        refine cond rfl (fun c139 => ?_) (fun c139 => ?_)
        ·
          exfalso
          rw [hf] at c139
          simp only [Bool.and_eq_true, Bool.or_eq_true, Bool.and_eq_false_iff, Bool.or_eq_false_iff, decide_eq_true_eq, decide_eq_false_iff_not, Bool.not_eq_true, Bool.not_eq_false, Bool.not_not, Bool.not_eq_eq_eq_not, Bool.not_true, Bool.not_false, Bool.false_eq_true, Bool.true_eq_false, ne_eq, Decidable.not_not, not_false_eq_true, not_true_eq_false, hasB] at c139
          have := hab level
          omega
        ·
          refine skip ?_
          show Code.wp _ _ _ _ _
          refine seq ?_
          refine seq ?_
          refine cutK (fun f => f 0 = .slice a0 l.length cap ∧ f 2 = .int .i64 level ∧ f 4 = .pointer (some ⟨b4, 0, none⟩) ∧ f 7 = .int .i64 (agreeF l t now).1 ∧ f 8 = .slice ao (agreeF l t now).2.1.length co ∧ f 10 = .pointer (some ⟨b10, 0, none⟩) ∧ f 11 = .int .i64 (soundF l wrong t now).2 ∧ f 12 = .int .i64 ((l.length : Int) - wrong) ∧ True) ⟨h0, h2, h4, h7, h8, h10, h11, h12, trivial⟩ ?_
          rintro f ⟨h0, h2, h4, h7, h8, h10, h11, h12, -⟩
          refine region ?_
          refine sv (fa68_0 h4) ?_
          refine sv (yLdB rfl Try.isAgg3 (hS.at _) rfl) ?_
          refine sv (yAdd rfl rfl ⟨by omega, by omega⟩) ?_
          refine sv (yMove h0) ?_
          refine sv (yLen rfl Try.underlying66) ?_
          refine sv (yGeq rfl rfl) ?_
          refine nil ?_
          show Code.wp _ _ _ _ _
          refine cond rfl (fun c145 => ?_) (fun c145 => ?_)
          ·
            simp only [Bool.and_eq_true, Bool.or_eq_true, Bool.and_eq_false_iff, Bool.or_eq_false_iff, decide_eq_true_eq, decide_eq_false_iff_not, Bool.not_eq_true, Bool.not_eq_false, Bool.not_not, Bool.not_eq_eq_eq_not, Bool.not_true, Bool.not_false, Bool.false_eq_true, Bool.true_eq_false, ne_eq, Decidable.not_not, not_false_eq_true, not_true_eq_false] at c145
            refine seq ?_
            refine region ?_
            refine scall Try.call23 .nil c_Awake ?_
            rintro _ w ⟨rfl, hE⟩; replace hS := hS.step hE; clear hE
            refine sv (yAsg rfl) ?_
            refine nil ?_
            show Code.wp _ _ _ _ _
            refine wp_ret (thenR ?_)
            exact retV (res1 rfl rfl) hS.ext
          ·
            simp only [Bool.and_eq_true, Bool.or_eq_true, Bool.and_eq_false_iff, Bool.or_eq_false_iff, decide_eq_true_eq, decide_eq_false_iff_not, Bool.not_eq_true, Bool.not_eq_false, Bool.not_not, Bool.not_eq_eq_eq_not, Bool.not_true, Bool.not_false, Bool.false_eq_true, Bool.true_eq_false, ne_eq, Decidable.not_not, not_false_eq_true, not_true_eq_false] at c145
            refine skip ?_
            show Code.wp _ _ _ _ _
            refine seq ?_
            refine cutK (fun f => f 0 = .slice a0 l.length cap ∧ f 2 = .int .i64 level ∧ f 4 = .pointer (some ⟨b4, 0, none⟩) ∧ f 7 = .int .i64 (agreeF l t now).1 ∧ f 8 = .slice ao (agreeF l t now).2.1.length co ∧ f 10 = .pointer (some ⟨b10, 0, none⟩) ∧ f 11 = .int .i64 (soundF l wrong t now).2 ∧ f 12 = .int .i64 ((l.length : Int) - wrong) ∧ True) ⟨h0, h2, h4, h7, h8, h10, h11, h12, trivial⟩ ?_
            rintro f ⟨h0, h2, h4, h7, h8, h10, h11, h12, -⟩
            refine region ?_
            refine sv (yMove h0) ?_
            refine sv (fa68_0 h4) ?_
            refine sv (yLdB rfl Try.isAgg3 (hS.at _) rfl) ?_
            refine sv (yAdd rfl rfl ⟨by omega, by omega⟩) ?_
            refine sv (fa68_1 h4) ?_
            refine sv (yLdB rfl Try.isAgg3 (hS.at _) rfl) ?_
            refine sv (fa68_2 h4) ?_
            refine sv (yLdB rfl Try.isAgg3 (hS.at _) rfl) ?_
            obtain ⟨c, d, hs2, hcd, hdd⟩ := sound_more hE0 hf (by omega)
            refine scall Try.call37 (.cons rfl (.cons rfl (.cons rfl (.cons rfl .nil)))) (c_Sound (hl.ext RGauge.stays hS.ext) ⟨by omega, by omega⟩ ht hn) ?_
            rintro _ w ⟨rfl, hE⟩; replace hS := hS.step hE; clear hE
            refine sv (yMove rfl) ?_
            refine sv (yExt rfl rfl) ?_
            refine sv (yExt rfl rfl) ?_
            refine salloc hS Try.zeroValue38 rfl ?_; clear hS; intro b14 w hS
            refine sst hS rfl rfl Try.sizeOf38 rfl rfl rfl rfl ?_; clear hS; intro w hS
            refine sv (yAsg rfl) ?_
            refine nil ?_
            show Code.wp _ _ _ _ _
            refine seq ?_
            refine region ?_
            refine sv (yMove rfl) ?_
            refine sv (yEql rfl rfl) ?_
            refine sv (yMove rfl) ?_
            refine sg rfl rfl rfl (fun g => (yLdBA h10 Try.isAgg38 Try.sizeOf38 (hS.at _) rfl rfl)) (fun v162 g162 => ?_)
            refine sg rfl rfl rfl (fun g => (yLdBA rfl Try.isAgg38 Try.sizeOf38 (hS.at _) rfl rfl)) (fun v163 g163 => ?_)
            refine sgc hS rfl rfl rfl Try.call30 (fun g => (.cons (g162.1 g) (.cons (g163.1 g) .nil))) (fun g => c_within) ?_; clear hS; intro v164 w hS g164
            refine sv (yAnd rfl (fun hB => (g164.1 hB)) rfl) ?_
            refine sv (yMove rfl) ?_
            refine sgc hS rfl rfl rfl Try.call23 (fun g => .nil) (fun g => c_Awake) ?_; clear hS; intro v167 w hS g167
            refine sv (yAnd rfl (fun hB => (g167.1 hB)) rfl) ?_
            refine sv (yAsg rfl) ?_
            refine nil ?_
            show Code.wp _ _ _ _ _
            refine wp_ret ?_
            exact retV (res1 rfl (eqB (by rw [hf, hs2]; simp [withinB]; omega))) hS.ext
end Go.Proofs.Ytpgmehignepidaa
