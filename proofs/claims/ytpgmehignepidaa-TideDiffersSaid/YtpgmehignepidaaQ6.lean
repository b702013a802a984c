/- Merged texts, part 6. -/
import Derived.Test.YtpgmehignepidaaQ5
set_option linter.all false
/- part Wk36 -/
namespace Go.Proofs.Ytpgmehignepidaa
open Go Bx
set_option maxHeartbeats 2000000 in
/-- barrage/tide.Residual -/
theorem c_Residual {t : Table} {cs : List Value} {l : List Gauge} {v : Value} {wrong tick now : Int} {w0 : World} (ht : RTable w0 cs t) (hl : Sl w0 5 RGauge v l) (hw : I64 wrong) (hti : I64 tick) (hn : I64 now) : CV Try.prog 44 #[.agg cs.toArray, v, .int .i64 wrong, .int .i64 tick, .int .i64 now] w0 (.tuple #[.agg (spanC (residF t l wrong tick now).1).toArray, .int .i64 (residF t l wrong tick now).2]) := by
  obtain ⟨cv, rfl, hmean, hsl⟩ := id ht
  refine enter Try.func44 rfl Try.ntmps44 rfl ?_
  have hS := St.start w0
  refine seq ?_
  refine region ?_
  refine sbox hS rfl rfl ?_; clear hS; intro b5 w hS
  refine salloc hS Try.zeroValue38 rfl ?_; clear hS; intro b10 w hS
  refine sv (yAsg rfl) ?_
  refine nil ?_
  show Code.wp _ _ _ _ _
  refine seq ?_
  refine region ?_
  refine sv (yLdBA rfl Try.isAgg24 Try.sizeOf24 (hS.at _) rfl rfl) ?_
  refine scall Try.call19 (.cons rfl .nil) (c_Check (ht.ext hS.ext)) ?_
  rintro _ w ⟨rfl, hE⟩; replace hS := hS.step hE; clear hE
  refine sv (yMove rfl) ?_
  refine sv (yExt rfl rfl) ?_
  refine sv (yExt rfl rfl) ?_
  refine sv (yAsg rfl) ?_
  refine sv (yAsg rfl) ?_
  refine nil ?_
  show Code.wp _ _ _ _ _
  refine seq ?_
  refine seq ?_
  refine region ?_
  refine sv (yMove rfl) ?_
  refine sv (yNeq rfl rfl) ?_
  refine nil ?_
  show Code.wp _ _ _ _ _
  refine cond rfl (fun c22 => ?_) (fun c22 => ?_)
  ·
    simp only [Bool.and_eq_true, Bool.or_eq_true, Bool.and_eq_false_iff, Bool.or_eq_false_iff, decide_eq_true_eq, decide_eq_false_iff_not, Bool.not_eq_true, Bool.not_eq_false, Bool.not_not, Bool.not_eq_eq_eq_not, Bool.not_true, Bool.not_false, Bool.false_eq_true, Bool.true_eq_false, ne_eq, Decidable.not_not, not_false_eq_true, not_true_eq_false] at c22
    have hfin : residF t l wrong tick now = (⟨0, 0⟩, (checkT t).2) := by unfold residF; rw [if_pos c22]
    refine seq ?_
    refine region ?_
    refine sv (yBuild Try.zeroValue38 rfl pl38 .nil rfl) ?_
    refine sv (yMove rfl) ?_
    refine sst hS rfl rfl Try.sizeOf38 rfl rfl rfl rfl ?_; clear hS; intro w hS
    refine sv (yAsg rfl) ?_
    refine nil ?_
    show Code.wp _ _ _ _ _
    refine wp_ret (thenR ?_)
    exact retV (resV2 rfl (rc rfl Try.isAgg38 Try.sizeOf38 (hS.at _) (by rw [hfin]; rfl) rfl) (rt (eqI (by rw [hfin])))) hS.ext
  ·
    simp only [Bool.and_eq_true, Bool.or_eq_true, Bool.and_eq_false_iff, Bool.or_eq_false_iff, decide_eq_true_eq, decide_eq_false_iff_not, Bool.not_eq_true, Bool.not_eq_false, Bool.not_not, Bool.not_eq_eq_eq_not, Bool.not_true, Bool.not_false, Bool.false_eq_true, Bool.true_eq_false, ne_eq, Decidable.not_not, not_false_eq_true, not_true_eq_false] at c22
    have hok := tableOk_of c22
    refine skip ?_
    show Code.wp _ _ _ _ _
    refine seq ?_
    refine region ?_
    refine sv (yMove rfl) ?_
    refine sv (yMove rfl) ?_
    refine sv (yMove rfl) ?_
    refine sv (yMove rfl) ?_
    refine scall Try.call37 (.cons rfl (.cons rfl (.cons rfl (.cons rfl .nil)))) (c_Sound (hl.ext RGauge.stays hS.ext) hw hti hn) ?_
    rintro _ w ⟨rfl, hE⟩; replace hS := hS.step hE; clear hE
    refine sv (yMove rfl) ?_
    refine sv (yExt rfl rfl) ?_
    refine sv (yExt rfl rfl) ?_
    refine salloc hS Try.zeroValue38 rfl ?_; clear hS; intro b14 w hS
    refine sst hS rfl rfl Try.sizeOf38 rfl rfl rfl rfl ?_; clear hS; intro w hS
    refine sv (yAsg rfl) ?_
    refine nil ?_
    show Code.wp _ _ _ _ _
    refine seq ?_
    refine seq ?_
    refine region ?_
    refine sv (yMove rfl) ?_
    refine sv (yNeq rfl rfl) ?_
    refine nil ?_
    show Code.wp _ _ _ _ _
    refine cond rfl (fun c34 => ?_) (fun c34 => ?_)
    ·
      simp only [Bool.and_eq_true, Bool.or_eq_true, Bool.and_eq_false_iff, Bool.or_eq_false_iff, decide_eq_true_eq, decide_eq_false_iff_not, Bool.not_eq_true, Bool.not_eq_false, Bool.not_not, Bool.not_eq_eq_eq_not, Bool.not_true, Bool.not_false, Bool.false_eq_true, Bool.true_eq_false, ne_eq, Decidable.not_not, not_false_eq_true, not_true_eq_false] at c34
      have hfin : residF t l wrong tick now = (⟨0, 0⟩, (soundF l wrong tick now).2) := by unfold residF; rw [if_neg (fun h => h c22), if_pos c34]
      refine seq ?_
      refine region ?_
      refine sv (yBuild Try.zeroValue38 rfl pl38 .nil rfl) ?_
      refine sv (yMove rfl) ?_
      refine sst hS rfl rfl Try.sizeOf38 rfl rfl rfl rfl ?_; clear hS; intro w hS
      refine sv (yAsg rfl) ?_
      refine nil ?_
      show Code.wp _ _ _ _ _
      refine wp_ret (thenR ?_)
      exact retV (resV2 rfl (rc rfl Try.isAgg38 Try.sizeOf38 (hS.at _) (by rw [hfin]; rfl) rfl) (rt (eqI (by rw [hfin])))) hS.ext
    ·
      simp only [Bool.and_eq_true, Bool.or_eq_true, Bool.and_eq_false_iff, Bool.or_eq_false_iff, decide_eq_true_eq, decide_eq_false_iff_not, Bool.not_eq_true, Bool.not_eq_false, Bool.not_not, Bool.not_eq_eq_eq_not, Bool.not_true, Bool.not_false, Bool.false_eq_true, Bool.true_eq_false, ne_eq, Decidable.not_not, not_false_eq_true, not_true_eq_false] at c34
      obtain ⟨hE0, htb, hs1, hs2, hs3⟩ := soundF_zero c34
      have hlb := lvlT_bd hok tick
      have hfin : residF t l wrong tick now = (⟨(soundF l wrong tick now).1.lo - (lvlT t tick).hi, (soundF l wrong tick now).1.hi - (lvlT t tick).lo⟩, 0) := by unfold residF; rw [if_neg (fun h => h c22), if_neg (fun h => h c34)]
      refine skip ?_
      show Code.wp _ _ _ _ _
      refine seq ?_
      refine region ?_
      refine sv (yLdBA rfl Try.isAgg24 Try.sizeOf24 (hS.at _) rfl rfl) ?_
      refine sv (yMove rfl) ?_
      refine scall Try.call71 (.cons rfl (.cons rfl (.cons rfl .nil))) (c_levels (n := 1) (hsl.ext RConst.stays hS.ext) hok htb (by omega)) ?_
      rintro ov w hM; replace hS := hS.call1 hM; clear hM; obtain ⟨g, cap, rfl, _, _, hcl⟩ := row_some (hS.row ov) (by decide); rw [lvl1] at hcl
      refine sv (yIx rfl rfl Try.runUnderlying61 Try.sizeOf38 (by omega) (by omega)) ?_
      refine sv (yLdA rfl Try.isAgg38 Try.sizeOf38 hcl rfl) ?_
      refine salloc hS Try.zeroValue38 rfl ?_; clear hS; intro b15 w hS
      refine sst hS rfl rfl Try.sizeOf38 rfl rfl rfl rfl ?_; clear hS; intro w hS
      refine nil ?_
      show Code.wp _ _ _ _ _
      refine seq ?_
      refine region ?_
      refine sv (fa38_0 rfl) ?_
      refine sv (yLdB rfl Try.isAgg3 (hS.at _) rfl) ?_
      refine sv (fa38_1 rfl) ?_
      refine sv (yLdB rfl Try.isAgg3 (hS.at _) rfl) ?_
      refine sv (ySub rfl rfl ⟨by omega, by omega⟩) ?_
      refine sv (fa38_1 rfl) ?_
      refine sv (yLdB rfl Try.isAgg3 (hS.at _) rfl) ?_
      refine sv (fa38_0 rfl) ?_
      refine sv (yLdB rfl Try.isAgg3 (hS.at _) rfl) ?_
      refine sv (ySub rfl rfl ⟨by omega, by omega⟩) ?_
      refine sv (yBuild Try.zeroValue38 rfl pl38 (.cons rfl rfl (.cons rfl rfl .nil)) rfl) ?_
      refine sst hS rfl rfl Try.sizeOf38 rfl rfl rfl rfl ?_; clear hS; intro w hS
      refine sv (yAsg rfl) ?_
      refine nil ?_
      show Code.wp _ _ _ _ _
      refine wp_ret ?_
      exact retV (resV2 rfl (rc rfl Try.isAgg38 Try.sizeOf38 (hS.at _) (by rw [hfin]; rfl) rfl) (rt (eqI (by rw [hfin])))) hS.ext
set_option maxHeartbeats 2000000 in
/-- barrage/barrageref01.Residual -/
theorem c_rResidual {t : Table} {cs : List Value} {l : List Gauge} {v : Value} {wrong tick now : Int} {w0 : World} (ht : RTable w0 cs t) (hl : Sl w0 5 RGauge v l) (hw : I64 wrong) (hti : I64 tick) (hn : I64 now) : CV Try.prog 45 #[.agg cs.toArray, v, .int .i64 wrong, .int .i64 tick, .int .i64 now] w0 (.tuple #[.agg (spanC (residF t l wrong tick now).1).toArray, .int .i64 (residF t l wrong tick now).2]) := by
  obtain ⟨cv, rfl, hmean, hsl⟩ := id ht
  have hsq := sound_law l wrong tick now
  refine enter Try.func45 rfl Try.ntmps45 rfl ?_
  have hS := St.start w0
  refine seq ?_
  refine region ?_
  refine sbox hS rfl rfl ?_; clear hS; intro b5 w hS
  refine salloc hS Try.zeroValue38 rfl ?_; clear hS; intro b10 w hS
  refine sv (yAsg rfl) ?_
  refine nil ?_
  show Code.wp _ _ _ _ _
  refine seq ?_
  refine region ?_
  refine sv (yLdBA rfl Try.isAgg24 Try.sizeOf24 (hS.at _) rfl rfl) ?_
  refine scall Try.call20 (.cons rfl .nil) (c_rCheck (ht.ext hS.ext)) ?_
  rintro _ w ⟨rfl, hE⟩; replace hS := hS.step hE; clear hE
  refine sv (yMove rfl) ?_
  refine sv (yExt rfl rfl) ?_
  refine sv (yExt rfl rfl) ?_
  refine sv (yAsg rfl) ?_
  refine sv (yAsg rfl) ?_
  refine nil ?_
  show Code.wp _ _ _ _ _
  refine seq ?_
  refine seq ?_
  refine region ?_
  refine sv (yMove rfl) ?_
  refine sv (yNeq rfl rfl) ?_
  refine nil ?_
  show Code.wp _ _ _ _ _
  refine cond rfl (fun c22 => ?_) (fun c22 => ?_)
  ·
    simp only [Bool.and_eq_true, Bool.or_eq_true, Bool.and_eq_false_iff, Bool.or_eq_false_iff, decide_eq_true_eq, decide_eq_false_iff_not, Bool.not_eq_true, Bool.not_eq_false, Bool.not_not, Bool.not_eq_eq_eq_not, Bool.not_true, Bool.not_false, Bool.false_eq_true, Bool.true_eq_false, ne_eq, Decidable.not_not, not_false_eq_true, not_true_eq_false] at c22
    have hfin : residF t l wrong tick now = (⟨0, 0⟩, (checkT t).2) := by unfold residF; rw [if_pos c22]
    refine seq ?_
    refine region ?_
    refine sv (yBuild Try.zeroValue38 rfl pl38 .nil rfl) ?_
    refine sv (yMove rfl) ?_
    refine sst hS rfl rfl Try.sizeOf38 rfl rfl rfl rfl ?_; clear hS; intro w hS
    refine sv (yAsg rfl) ?_
    refine nil ?_
    show Code.wp _ _ _ _ _
    refine wp_ret (thenR ?_)
    exact retV (resV2 rfl (rc rfl Try.isAgg38 Try.sizeOf38 (hS.at _) (by rw [hfin]; rfl) rfl) (rt (eqI (by rw [hfin])))) hS.ext
  ·
    simp only [Bool.and_eq_true, Bool.or_eq_true, Bool.and_eq_false_iff, Bool.or_eq_false_iff, decide_eq_true_eq, decide_eq_false_iff_not, Bool.not_eq_true, Bool.not_eq_false, Bool.not_not, Bool.not_eq_eq_eq_not, Bool.not_true, Bool.not_false, Bool.false_eq_true, Bool.true_eq_false, ne_eq, Decidable.not_not, not_false_eq_true, not_true_eq_false] at c22
    have hok := tableOk_of c22
    refine skip ?_
    show Code.wp _ _ _ _ _
    refine seq ?_
    refine region ?_
    refine sv (yMove rfl) ?_
    refine sv (yMove rfl) ?_
    refine sv (yMove rfl) ?_
    refine sv (yMove rfl) ?_
    refine scall Try.call38 (.cons rfl (.cons rfl (.cons rfl (.cons rfl .nil)))) (c_rSound (hl.ext RGauge.stays hS.ext)) ?_
    rw [← hsq]
    rintro _ w ⟨rfl, hE⟩; replace hS := hS.step hE; clear hE
    refine sv (yMove rfl) ?_
    refine sv (yExt rfl rfl) ?_
    refine sv (yExt rfl rfl) ?_
    refine salloc hS Try.zeroValue38 rfl ?_; clear hS; intro b14 w hS
    refine sst hS rfl rfl Try.sizeOf38 rfl rfl rfl rfl ?_; clear hS; intro w hS
    refine sv (yAsg rfl) ?_
    refine nil ?_
    show Code.wp _ _ _ _ _
    refine seq ?_
    refine seq ?_
    refine region ?_
    refine sv (yMove rfl) ?_
    refine sv (yNeq rfl rfl) ?_
    refine nil ?_
    show Code.wp _ _ _ _ _
    refine cond rfl (fun c34 => ?_) (fun c34 => ?_)
    ·
      simp only [Bool.and_eq_true, Bool.or_eq_true, Bool.and_eq_false_iff, Bool.or_eq_false_iff, decide_eq_true_eq, decide_eq_false_iff_not, Bool.not_eq_true, Bool.not_eq_false, Bool.not_not, Bool.not_eq_eq_eq_not, Bool.not_true, Bool.not_false, Bool.false_eq_true, Bool.true_eq_false, ne_eq, Decidable.not_not, not_false_eq_true, not_true_eq_false] at c34
      have hfin : residF t l wrong tick now = (⟨0, 0⟩, (soundF l wrong tick now).2) := by unfold residF; rw [if_neg (fun h => h c22), if_pos c34]
      refine seq ?_
      refine region ?_
      refine sv (yBuild Try.zeroValue38 rfl pl38 .nil rfl) ?_
      refine sv (yMove rfl) ?_
      refine sst hS rfl rfl Try.sizeOf38 rfl rfl rfl rfl ?_; clear hS; intro w hS
      refine sv (yAsg rfl) ?_
      refine nil ?_
      show Code.wp _ _ _ _ _
      refine wp_ret (thenR ?_)
      exact retV (resV2 rfl (rc rfl Try.isAgg38 Try.sizeOf38 (hS.at _) (by rw [hfin]; rfl) rfl) (rt (eqI (by rw [hfin])))) hS.ext
    ·
      simp only [Bool.and_eq_true, Bool.or_eq_true, Bool.and_eq_false_iff, Bool.or_eq_false_iff, decide_eq_true_eq, decide_eq_false_iff_not, Bool.not_eq_true, Bool.not_eq_false, Bool.not_not, Bool.not_eq_eq_eq_not, Bool.not_true, Bool.not_false, Bool.false_eq_true, Bool.true_eq_false, ne_eq, Decidable.not_not, not_false_eq_true, not_true_eq_false] at c34
      obtain ⟨hE0, htb, hs1, hs2, hs3⟩ := soundF_zero c34
      have hlb := lvlT_bd hok tick
      have hfin : residF t l wrong tick now = (⟨(soundF l wrong tick now).1.lo - (lvlT t tick).hi, (soundF l wrong tick now).1.hi - (lvlT t tick).lo⟩, 0) := by unfold residF; rw [if_neg (fun h => h c22), if_neg (fun h => h c34)]
      refine skip ?_
      show Code.wp _ _ _ _ _
      refine seq ?_
      refine region ?_
      refine sv (yLdBA rfl Try.isAgg24 Try.sizeOf24 (hS.at _) rfl rfl) ?_
      refine sv (yMove rfl) ?_
      refine scall Try.call73 (.cons rfl (.cons rfl .nil)) (c_rlevel (ht.ext hS.ext) hok ⟨by omega, by omega⟩) ?_
      rintro _ w ⟨rfl, hE⟩; replace hS := hS.step hE; clear hE
      refine salloc hS Try.zeroValue38 rfl ?_; clear hS; intro b15 w hS
      refine sst hS rfl rfl Try.sizeOf38 rfl rfl rfl rfl ?_; clear hS; intro w hS
      refine nil ?_
      show Code.wp _ _ _ _ _
      refine seq ?_
      refine region ?_
      refine sv (fa38_0 rfl) ?_
      refine sv (yLdB rfl Try.isAgg3 (hS.at _) rfl) ?_
      refine sv (fa38_1 rfl) ?_
      refine sv (yLdB rfl Try.isAgg3 (hS.at _) rfl) ?_
      refine sv (ySub rfl rfl ⟨by omega, by omega⟩) ?_
      refine sv (fa38_1 rfl) ?_
      refine sv (yLdB rfl Try.isAgg3 (hS.at _) rfl) ?_
      refine sv (fa38_0 rfl) ?_
      refine sv (yLdB rfl Try.isAgg3 (hS.at _) rfl) ?_
      refine sv (ySub rfl rfl ⟨by omega, by omega⟩) ?_
      refine sv (yBuild Try.zeroValue38 rfl pl38 (.cons rfl rfl (.cons rfl rfl .nil)) rfl) ?_
      refine sst hS rfl rfl Try.sizeOf38 rfl rfl rfl rfl ?_; clear hS; intro w hS
      refine sv (yAsg rfl) ?_
      refine nil ?_
      show Code.wp _ _ _ _ _
      refine wp_ret ?_
      exact retV (resV2 rfl (rc rfl Try.isAgg38 Try.sizeOf38 (hS.at _) (by rw [hfin]; rfl) rfl) (rt (eqI (by rw [hfin])))) hS.ext
end Go.Proofs.Ytpgmehignepidaa
/- part Wk37 -/
namespace Go.Proofs.Ytpgmehignepidaa
open Go Bx
set_option maxHeartbeats 2000000 in
/-- barrage/barragelaw01.TideResiduals -/
theorem w_TideResiduals {t : Table} {cs : List Value} {l : List Gauge} {v : Value} {xs : List Value} {x : At} {w0 : World} (ht : RTable w0 cs t) (hl : Sl w0 5 RGauge v l) (hx : RAt w0 xs x) : CV Try.prog 14 #[.agg cs.toArray, v, .agg xs.toArray] w0 (.bool true) := by
  obtain ⟨cv, rfl, hmean, hsl⟩ := id ht
  obtain ⟨wrong, tick, now⟩ := x
  replace hx : xs = [.int .i64 wrong, .int .i64 tick, .int .i64 now] ∧ I64 wrong ∧ I64 tick ∧ I64 now := hx
  obtain ⟨rfl, hw, hti, hn⟩ := hx
  refine enter Try.func14 rfl Try.ntmps14 rfl ?_
  have hS := St.start w0
  refine seq ?_
  refine region ?_
  refine sbox hS rfl rfl ?_; clear hS; intro b3 w hS
  refine sbox hS rfl rfl ?_; clear hS; intro b5 w hS
  refine sv (yAsg rfl) ?_
  refine nil ?_
  show Code.wp _ _ _ _ _
  refine seq ?_
  refine region ?_
  refine sv (yLdBA rfl Try.isAgg24 Try.sizeOf24 (hS.at _) rfl rfl) ?_
  refine sv (yMove rfl) ?_
  refine sv (fa68_0 rfl) ?_
  refine sv (yLdB rfl Try.isAgg3 (hS.at _) rfl) ?_
  refine sv (fa68_1 rfl) ?_
  refine sv (yLdB rfl Try.isAgg3 (hS.at _) rfl) ?_
  refine sv (fa68_2 rfl) ?_
  refine sv (yLdB rfl Try.isAgg3 (hS.at _) rfl) ?_
  refine scall Try.call44 (.cons rfl (.cons rfl (.cons rfl (.cons rfl (.cons rfl .nil))))) (c_Residual (ht.ext hS.ext) (hl.ext RGauge.stays hS.ext) hw hti hn) ?_
  rintro _ w ⟨rfl, hE⟩; replace hS := hS.step hE; clear hE
  refine sv (yMove rfl) ?_
  refine sv (yExt rfl rfl) ?_
  refine sv (yExt rfl rfl) ?_
  refine salloc hS Try.zeroValue38 rfl ?_; clear hS; intro b7 w hS
  refine sst hS rfl rfl Try.sizeOf38 rfl rfl rfl rfl ?_; clear hS; intro w hS
  refine sv (yAsg rfl) ?_
  refine nil ?_
  show Code.wp _ _ _ _ _
  refine seq ?_
  refine region ?_
  refine sv (yLdBA rfl Try.isAgg24 Try.sizeOf24 (hS.at _) rfl rfl) ?_
  refine sv (yMove rfl) ?_
  refine sv (fa68_0 rfl) ?_
  refine sv (yLdB rfl Try.isAgg3 (hS.at _) rfl) ?_
  refine sv (fa68_1 rfl) ?_
  refine sv (yLdB rfl Try.isAgg3 (hS.at _) rfl) ?_
  refine sv (fa68_2 rfl) ?_
  refine sv (yLdB rfl Try.isAgg3 (hS.at _) rfl) ?_
  refine scall Try.call45 (.cons rfl (.cons rfl (.cons rfl (.cons rfl (.cons rfl .nil))))) (c_rResidual (ht.ext hS.ext) (hl.ext RGauge.stays hS.ext) hw hti hn) ?_
  rintro _ w ⟨rfl, hE⟩; replace hS := hS.step hE; clear hE
  refine sv (yMove rfl) ?_
  refine sv (yExt rfl rfl) ?_
  refine sv (yExt rfl rfl) ?_
  refine salloc hS Try.zeroValue38 rfl ?_; clear hS; intro b9 w hS
  refine sst hS rfl rfl Try.sizeOf38 rfl rfl rfl rfl ?_; clear hS; intro w hS
  refine sv (yAsg rfl) ?_
  refine nil ?_
  show Code.wp _ _ _ _ _
  refine seq ?_
  refine region ?_
  refine sv (yLdBA rfl Try.isAgg38 Try.sizeOf38 (hS.at _) rfl rfl) ?_
  refine sv (yLdBA rfl Try.isAgg38 Try.sizeOf38 (hS.at _) rfl rfl) ?_
  refine sv (eqS38 rfl rfl) ?_
  refine sv (yMove rfl) ?_
  refine sg rfl rfl rfl (fun g => (yMove rfl)) (fun v39 g39 => ?_)
  refine sg rfl rfl rfl (fun g => (yMove rfl)) (fun v40 g40 => ?_)
  refine sg rfl rfl rfl (fun g => (yEql (g39.1 g) (g40.1 g))) (fun v41 g41 => ?_)
  refine sv (yAnd rfl (fun hB => (g41.1 hB)) rfl) ?_
  refine sv (yMove rfl) ?_
  refine sgc hS rfl rfl rfl Try.call23 (fun g => .nil) (fun g => c_Awake) ?_; clear hS; intro v44 w hS g44
  refine sv (yAnd rfl (fun hB => (g44.1 hB)) rfl) ?_
  refine sv (yAsg rfl) ?_
  refine nil ?_
  show Code.wp _ _ _ _ _
  refine wp_ret ?_
  exact retV (res1 rfl (eqB (by simp))) hS.ext
set_option maxHeartbeats 4000000 in
/-- barrage/barragelaw01.TideDiffers -/
theorem w_TideDiffers {t : Table} {cs : List Value} {l : List Gauge} {v : Value} {xs : List Value} {x : Two} {w0 : World} (ht : RTable w0 cs t) (hl : Sl w0 5 RGauge v l) (hx : RTwo w0 xs x) : CV Try.prog 15 #[.agg cs.toArray, v, .agg xs.toArray] w0 (.bool true) := by
  obtain ⟨cv, rfl, hmean, hsl⟩ := id ht
  obtain ⟨⟨wrong, tick, now⟩, xa, xb⟩ := x
  replace hx : xs = [.int .i64 wrong, .int .i64 tick, .int .i64 now, .int .u8 xa, .int .u8 xb] ∧ I64 wrong ∧ I64 tick ∧ I64 now ∧ Bd xa 0 255 ∧ Bd xb 0 255 := hx
  obtain ⟨rfl, hw, hti, hn, hxa, hxb⟩ := hx
  refine enter Try.func15 rfl Try.ntmps15 rfl ?_
  have hS := St.start w0
  refine seq ?_
  refine region ?_
  refine sbox hS rfl rfl ?_; clear hS; intro b3 w hS
  refine sbox hS rfl rfl ?_; clear hS; intro b5 w hS
  refine sv (yAsg rfl) ?_
  refine nil ?_
  show Code.wp _ _ _ _ _
  refine seq ?_
  refine region ?_
  refine sv (yLdBA rfl Try.isAgg24 Try.sizeOf24 (hS.at _) rfl rfl) ?_
  refine sv (yMove rfl) ?_
  refine sv (fa84_0 rfl) ?_
  refine sv (fa68_0 rfl) ?_
  refine sv (yLdB rfl Try.isAgg3 (hS.at _) rfl) ?_
  refine sv (fa84_0 rfl) ?_
  refine sv (fa68_1 rfl) ?_
  refine sv (yLdB rfl Try.isAgg3 (hS.at _) rfl) ?_
  refine sv (fa84_0 rfl) ?_
  refine sv (fa68_2 rfl) ?_
  refine sv (yLdB rfl Try.isAgg3 (hS.at _) rfl) ?_
  refine scall Try.call44 (.cons rfl (.cons rfl (.cons rfl (.cons rfl (.cons rfl .nil))))) (c_Residual (ht.ext hS.ext) (hl.ext RGauge.stays hS.ext) hw hti hn) ?_
  rintro _ w ⟨rfl, hE⟩; replace hS := hS.step hE; clear hE
  refine sv (yMove rfl) ?_
  refine sv (yExt rfl rfl) ?_
  refine sv (yExt rfl rfl) ?_
  refine salloc hS Try.zeroValue38 rfl ?_; clear hS; intro b7 w hS
  refine sst hS rfl rfl Try.sizeOf38 rfl rfl rfl rfl ?_; clear hS; intro w hS
  refine sv (yAsg rfl) ?_
  refine nil ?_
  show Code.wp _ _ _ _ _
  refine seq ?_
  refine region ?_
  refine sv (yMove rfl) ?_
  refine sv (fa84_0 rfl) ?_
  refine sv (fa68_0 rfl) ?_
  refine sv (yLdB rfl Try.isAgg3 (hS.at _) rfl) ?_
  refine sv (fa84_0 rfl) ?_
  refine sv (fa68_1 rfl) ?_
  refine sv (yLdB rfl Try.isAgg3 (hS.at _) rfl) ?_
  refine sv (fa84_0 rfl) ?_
  refine sv (fa68_2 rfl) ?_
  refine sv (yLdB rfl Try.isAgg3 (hS.at _) rfl) ?_
  refine scall Try.call37 (.cons rfl (.cons rfl (.cons rfl (.cons rfl .nil)))) (c_Sound (hl.ext RGauge.stays hS.ext) hw hti hn) ?_
  rintro _ w ⟨rfl, hE⟩; replace hS := hS.step hE; clear hE
  refine sv (yMove rfl) ?_
  refine sv (yExt rfl rfl) ?_
  refine sv (yExt rfl rfl) ?_
  refine salloc hS Try.zeroValue38 rfl ?_; clear hS; intro b9 w hS
  refine sst hS rfl rfl Try.sizeOf38 rfl rfl rfl rfl ?_; clear hS; intro w hS
  refine sv (yAsg rfl) ?_
  refine nil ?_
  show Code.wp _ _ _ _ _
  refine seq ?_
  refine region ?_
  refine sv (yLdBA rfl Try.isAgg24 Try.sizeOf24 (hS.at _) rfl rfl) ?_
  refine sv (fa84_0 rfl) ?_
  refine sv (fa68_1 rfl) ?_
  refine sv (yLdB rfl Try.isAgg3 (hS.at _) rfl) ?_
  refine scall Try.call28 (.cons rfl (.cons rfl .nil)) (c_Level (ht.ext hS.ext) hti) ?_
  rintro _ w ⟨rfl, hE⟩; replace hS := hS.step hE; clear hE
  refine sv (yMove rfl) ?_
  refine sv (yExt rfl rfl) ?_
  refine sv (yExt rfl rfl) ?_
  refine salloc hS Try.zeroValue38 rfl ?_; clear hS; intro b11 w hS
  refine sst hS rfl rfl Try.sizeOf38 rfl rfl rfl rfl ?_; clear hS; intro w hS
  refine sv (yAsg rfl) ?_
  refine nil ?_
  show Code.wp _ _ _ _ _
  refine seq ?_
  refine seq ?_
  refine region ?_
  refine sv (yMove rfl) ?_
  refine sv (yNeq rfl rfl) ?_
  refine nil ?_
  show Code.wp _ _ _ _ _
  refine cond rfl (fun c53 => ?_) (fun c53 => ?_)
  ·
    simp only [Bool.and_eq_true, Bool.or_eq_true, Bool.and_eq_false_iff, Bool.or_eq_false_iff, decide_eq_true_eq, decide_eq_false_iff_not, Bool.not_eq_true, Bool.not_eq_false, Bool.not_not, Bool.not_eq_eq_eq_not, Bool.not_true, Bool.not_false, Bool.false_eq_true, Bool.true_eq_false, ne_eq, Decidable.not_not, not_false_eq_true, not_true_eq_false] at c53
    have hor : (soundF l wrong tick now).2 ≠ 0 ∨ (levelF t tick).2 ≠ 0 := by
      refine Classical.byContradiction fun hn2 => c53 (resid_e.2 ⟨?_, ?_⟩)
      · exact Decidable.byContradiction fun k => hn2 (.inr (by unfold levelF; rw [if_pos k]; exact k))
      · exact Decidable.byContradiction fun k => hn2 (.inl k)
    refine seq ?_
    refine region ?_
    refine sv (yMove rfl) ?_
    refine sv (yNeq rfl rfl) ?_
    refine sv (yMove rfl) ?_
    refine sg rfl rfl rfl (fun g => (yMove rfl)) (fun v57 g57 => ?_)
    refine sg rfl rfl rfl (fun g => (yNeq (g57.1 g) rfl)) (fun v58 g58 => ?_)
    refine sv (yOr rfl rfl (fun hB => (g58.1 hB))) ?_
    refine sv (yMove rfl) ?_
    refine sgc hS rfl rfl rfl Try.call23 (fun g => .nil) (fun g => c_Awake) ?_; clear hS; intro v61 w hS g61
    refine sv (yAnd rfl (fun hB => (g61.1 hB)) rfl) ?_
    refine sv (yAsg rfl) ?_
    refine nil ?_
    show Code.wp _ _ _ _ _
    refine wp_ret (thenR ?_)
    exact retV (res1 rfl (eqB (by simpa using hor))) hS.ext
  ·
    simp only [Bool.and_eq_true, Bool.or_eq_true, Bool.and_eq_false_iff, Bool.or_eq_false_iff, decide_eq_true_eq, decide_eq_false_iff_not, Bool.not_eq_true, Bool.not_eq_false, Bool.not_not, Bool.not_eq_eq_eq_not, Bool.not_true, Bool.not_false, Bool.false_eq_true, Bool.true_eq_false, ne_eq, Decidable.not_not, not_false_eq_true, not_true_eq_false] at c53
    obtain ⟨hC, hS0⟩ := resid_e.1 c53
    obtain ⟨hE0, htb, hs1, hs2, hs3⟩ := soundF_zero hS0
    have hok := tableOk_of hC
    have hlb := lvlT_bd hok tick
    have hll := lvlT_le hok tick
    have hLp := levelF_ok hC htb
    have hR : residF t l wrong tick now = (⟨(soundF l wrong tick now).1.lo - (lvlT t tick).hi, (soundF l wrong tick now).1.hi - (lvlT t tick).lo⟩, 0) := by unfold residF; rw [if_neg (fun h => h hC), if_neg (fun h => h hS0)]
    rw [hLp, hR] at hS
    dsimp only [spanC] at hS
    have hpa := part255 hs1 hxa
    have hpb := part255 hll hxb
    have hm1 : 0 ≤ ((soundF l wrong tick now).1.hi - (soundF l wrong tick now).1.lo) * xa := Int.mul_nonneg (by omega) hxa.1
    have hm2 : ((soundF l wrong tick now).1.hi - (soundF l wrong tick now).1.lo) * xa ≤ ((soundF l wrong tick now).1.hi - (soundF l wrong tick now).1.lo) * 255 := Int.mul_le_mul_of_nonneg_left hxa.2 (by omega)
    have hm3 : 0 ≤ ((lvlT t tick).hi - (lvlT t tick).lo) * xb := Int.mul_nonneg (by omega) hxb.1
    have hm4 : ((lvlT t tick).hi - (lvlT t tick).lo) * xb ≤ ((lvlT t tick).hi - (lvlT t tick).lo) * 255 := Int.mul_le_mul_of_nonneg_left hxb.2 (by omega)
    refine skip ?_
    show Code.wp _ _ _ _ _
    refine seq ?_
    refine region_draw mixed (by kernel_rfl) hS ?_
    refine qv (fun w hS => (fa38_0 rfl)) ?_
    refine qv (fun w hS => (yLdB rfl Try.isAgg3 (hS.at _) rfl)) ?_
    refine qv (fun w hS => (fa38_1 rfl)) ?_
    refine qv (fun w hS => (yLdB rfl Try.isAgg3 (hS.at _) rfl)) ?_
    refine qv (fun w hS => (fa38_0 rfl)) ?_
    refine qv (fun w hS => (yLdB rfl Try.isAgg3 (hS.at _) rfl)) ?_
    refine qv (fun w hS => (ySub rfl rfl ⟨by omega, by omega⟩)) ?_
    refine qv (fun w hS => (fa84_1 rfl)) ?_
    refine qv (fun w hS => (yLdB rfl Try.isAgg5 (hS.at _) rfl)) ?_
    refine qv (fun w hS => (yToI rfl Try.underlying5 Try.underlying3 ⟨by omega, by omega⟩)) ?_
    refine qv (fun w hS => (yMul rfl rfl ⟨by omega, by omega⟩)) ?_
    refine qv (fun w hS => (yQuoP rfl rfl ⟨by omega, by omega⟩ (by omega))) ?_
    refine qv (fun w hS => (yAdd rfl rfl ⟨by omega, by omega⟩)) ?_
    refine qv (fun w hS => (fa38_0 rfl)) ?_
    refine qv (fun w hS => (yLdB rfl Try.isAgg3 (hS.at _) rfl)) ?_
    refine qv (fun w hS => (fa38_1 rfl)) ?_
    refine qv (fun w hS => (yLdB rfl Try.isAgg3 (hS.at _) rfl)) ?_
    refine qv (fun w hS => (fa38_0 rfl)) ?_
    refine qv (fun w hS => (yLdB rfl Try.isAgg3 (hS.at _) rfl)) ?_
    refine qv (fun w hS => (ySub rfl rfl ⟨by omega, by omega⟩)) ?_
    refine qv (fun w hS => (fa84_2 rfl)) ?_
    refine qv (fun w hS => (yLdB rfl Try.isAgg5 (hS.at _) rfl)) ?_
    refine qv (fun w hS => (yToI rfl Try.underlying5 Try.underlying3 ⟨by omega, by omega⟩)) ?_
    refine qv (fun w hS => (yMul rfl rfl ⟨by omega, by omega⟩)) ?_
    refine qv (fun w hS => (yQuoP rfl rfl ⟨by omega, by omega⟩ (by omega))) ?_
    refine qv (fun w hS => (yAdd rfl rfl ⟨by omega, by omega⟩)) ?_
    refine qv (fun w hS => (yAsg rfl)) ?_
    refine qv (fun w hS => (yAsg rfl)) ?_
    clear hS; refine qnil (fun w hS => ?_)
    show Code.wp _ _ _ _ _
    refine seq ?_
    refine region ?_
    refine sv (yMove rfl) ?_
    refine sv (yEql rfl rfl) ?_
    refine sv (yMove rfl) ?_
    refine sg rfl rfl rfl (fun g => (yMove rfl)) (fun v92 g92 => ?_)
    refine sg rfl rfl rfl (fun g => (yEql (g92.1 g) rfl)) (fun v93 g93 => ?_)
    refine sv (yAnd rfl (fun hB => (g93.1 hB)) rfl) ?_
    refine sv (yMove rfl) ?_
    refine sg rfl rfl rfl (fun g => (yLdBA rfl Try.isAgg38 Try.sizeOf38 (hS.at _) rfl rfl)) (fun v96 g96 => ?_)
    refine sg rfl rfl rfl (fun g => (yMove rfl)) (fun v97 g97 => ?_)
    refine sg rfl rfl rfl (fun g => (yMove rfl)) (fun v98 g98 => ?_)
    refine sg rfl rfl rfl (fun g => (ySub (g97.1 g) (g98.1 g) ⟨by omega, by omega⟩)) (fun v99 g99 => ?_)
    refine sgc hS rfl rfl rfl Try.call29 (fun g => (.cons (g96.1 g) (.cons (g99.1 g) .nil))) (fun g => (c_has (s := ⟨(soundF l wrong tick now).1.lo - (lvlT t tick).hi, (soundF l wrong tick now).1.hi - (lvlT t tick).lo⟩))) ?_; clear hS; intro v100 w hS g100
    refine sv (yAnd rfl (fun hB => (g100.1 hB)) rfl) ?_
    refine sv (yMove rfl) ?_
    refine sg rfl rfl rfl (fun g => (fa38_1 rfl)) (fun v103 g103 => ?_)
    refine sg rfl rfl rfl (fun g => (yLdB (g103.1 g) Try.isAgg3 (hS.at _) rfl)) (fun v104 g104 => ?_)
    refine sg rfl rfl rfl (fun g => (fa38_0 rfl)) (fun v105 g105 => ?_)
    refine sg rfl rfl rfl (fun g => (yLdB (g105.1 g) Try.isAgg3 (hS.at _) rfl)) (fun v106 g106 => ?_)
    refine sg rfl rfl rfl (fun g => (ySub (g104.1 g) (g106.1 g) ⟨by omega, by omega⟩)) (fun v107 g107 => ?_)
    refine sg rfl rfl rfl (fun g => (fa38_1 rfl)) (fun v108 g108 => ?_)
    refine sg rfl rfl rfl (fun g => (yLdB (g108.1 g) Try.isAgg3 (hS.at _) rfl)) (fun v109 g109 => ?_)
    refine sg rfl rfl rfl (fun g => (fa38_0 rfl)) (fun v110 g110 => ?_)
    refine sg rfl rfl rfl (fun g => (yLdB (g110.1 g) Try.isAgg3 (hS.at _) rfl)) (fun v111 g111 => ?_)
    refine sg rfl rfl rfl (fun g => (ySub (g109.1 g) (g111.1 g) ⟨by omega, by omega⟩)) (fun v112 g112 => ?_)
    refine sg rfl rfl rfl (fun g => (fa38_1 rfl)) (fun v113 g113 => ?_)
    refine sg rfl rfl rfl (fun g => (yLdB (g113.1 g) Try.isAgg3 (hS.at _) rfl)) (fun v114 g114 => ?_)
    refine sg rfl rfl rfl (fun g => (yAdd (g112.1 g) (g114.1 g) ⟨by omega, by omega⟩)) (fun v115 g115 => ?_)
    refine sg rfl rfl rfl (fun g => (fa38_0 rfl)) (fun v116 g116 => ?_)
    refine sg rfl rfl rfl (fun g => (yLdB (g116.1 g) Try.isAgg3 (hS.at _) rfl)) (fun v117 g117 => ?_)
    refine sg rfl rfl rfl (fun g => (ySub (g115.1 g) (g117.1 g) ⟨by omega, by omega⟩)) (fun v118 g118 => ?_)
    refine sg rfl rfl rfl (fun g => (yEql (g107.1 g) (g118.1 g))) (fun v119 g119 => ?_)
    refine sv (yAnd rfl (fun hB => (g119.1 hB)) rfl) ?_
    refine sv (yMove rfl) ?_
    refine sgc hS rfl rfl rfl Try.call23 (fun g => .nil) (fun g => c_Awake) ?_; clear hS; intro v122 w hS g122
    refine sv (yAnd rfl (fun hB => (g122.1 hB)) rfl) ?_
    refine sv (yAsg rfl) ?_
    refine nil ?_
    show Code.wp _ _ _ _ _
    refine wp_ret ?_
    exact retV (res1 rfl (eqB (by rw [hS0, hLp]; simp [hasB]; omega))) hS.ext
end Go.Proofs.Ytpgmehignepidaa
