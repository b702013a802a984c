/- Walks, part Wk9. -/
import Derived.Test.YtpgmehignepidaaWk8
set_option linter.all false
namespace Go.Proofs.Ytpgmehignepidaa
open Go Bx
/-- barrage/tide.Agree -/
theorem c_AgreeE {l : List Gauge} {v : Value} {t now : Int} {w0 : World} (hl : Sl w0 5 RGauge v l) (ht : I64 t) (hn : I64 now) (he : gaugesE l t now ≠ 0) : CV Try.prog 39 #[v, .int .i64 t, .int .i64 now] w0 (.tuple #[.int .i64 0, .slice none 0 0, .int .i64 (gaugesE l t now)]) := by
  refine enter Try.func39 rfl Try.ntmps39 rfl ?_
  have hS := St.start w0
  refine seq ?_
  refine region ?_
  refine salloc hS Try.zeroValue3 rfl ?_; clear hS; intro b6 w hS
  refine sv (yAsg rfl) ?_
  refine sv (yAsg rfl) ?_
  refine nil ?_
  show Code.wp _ _ _ _ _
  refine seq ?_
  refine seq ?_
  refine region ?_
  refine sv (yMove rfl) ?_
  refine sv (yMove rfl) ?_
  refine sv (yMove rfl) ?_
  refine scall Try.call76 (.cons rfl (.cons rfl (.cons rfl .nil))) (c_gauges (hl.ext RGauge.stays hS.ext) ht hn) ?_
  rintro _ w ⟨rfl, hE⟩; replace hS := hS.step hE; clear hE
  refine sv (yAsg rfl) ?_
  refine nil ?_
  show Code.wp _ _ _ _ _
  refine seq ?_
  refine region ?_
  refine sv (yMove rfl) ?_
  refine sv (yNeq rfl rfl) ?_
  refine nil ?_
  show Code.wp _ _ _ _ _
  refine cond rfl (fun c23 => ?_) (fun c23 => ?_)
  ·
    refine seq ?_
    refine region ?_
    refine sv (yMove rfl) ?_
    refine sst hS rfl rfl Try.sizeOf3 rfl rfl rfl rfl ?_; clear hS; intro w hS
    refine sv (yAsg rfl) ?_
    refine sv (yAsg rfl) ?_
    refine nil ?_
    show Code.wp _ _ _ _ _
    refine wp_ret (thenR ?_)
    exact retV (resV3 rfl (rc1 rfl Try.isAgg3 (hS.at _) rfl) (rt rfl) (rt rfl)) hS.ext
  ·
    exact absurd (decide_eq_false_iff_not.1 c23) (fun h => h he)
set_option maxHeartbeats 1000000 in
/-- barrage/barragelaw01.Awake -/
theorem c_Awake {w0 : World} : CV Try.prog 23 #[] w0 (.bool true) := by
  refine enter Try.func23 rfl Try.ntmps23 rfl ?_
  have hS := St.start w0
  refine seq ?_
  refine region ?_
  refine sv (yAsg rfl) ?_
  refine nil ?_
  show Code.wp _ _ _ _ _
  refine seq ?_
  refine region ?_
  refine scall Try.call49 .nil c_Table ?_
  rintro _ w ⟨csT, rfl, hT, hE⟩; replace hS := hS.step hE; clear hE
  refine scall Try.call28 (.cons rfl (.cons rfl .nil)) (c_Level hT (by decide)) ?_
  rintro _ w ⟨rfl, hE⟩; replace hS := hS.step hE; clear hE
  refine sv (yMove rfl) ?_
  refine sv (yExt rfl rfl) ?_
  refine sv (yExt rfl rfl) ?_
  refine salloc hS Try.zeroValue38 rfl ?_; clear hS; intro b1 w hS
  refine sst hS rfl rfl Try.sizeOf38 rfl rfl rfl rfl ?_; clear hS; intro w hS
  refine sv (yAsg rfl) ?_
  refine nil ?_
  show Code.wp _ _ _ _ _
  refine seq ?_
  refine region ?_
  refine scall Try.call50 .nil c_Gauge ?_
  rintro _ w ⟨csG, rfl, hGG, hE⟩; replace hS := hS.step hE; clear hE
  refine scall Try.call26 (.cons rfl (.cons rfl (.cons rfl .nil))) (c_Says hGG (by decide) (by decide)) ?_
  rintro _ w ⟨rfl, hE⟩; replace hS := hS.step hE; clear hE
  refine sv (yMove rfl) ?_
  refine sv (yExt rfl rfl) ?_
  refine sv (yExt rfl rfl) ?_
  refine salloc hS Try.zeroValue38 rfl ?_; clear hS; intro b3 w hS
  refine sst hS rfl rfl Try.sizeOf38 rfl rfl rfl rfl ?_; clear hS; intro w hS
  refine sv (yAsg rfl) ?_
  refine nil ?_
  show Code.wp _ _ _ _ _
  refine seq ?_
  refine region ?_
  refine scall Try.call50 .nil c_Gauge ?_
  rintro _ w ⟨csH, rfl, hGH, hE⟩; replace hS := hS.step hE; clear hE
  refine scall Try.call26 (.cons rfl (.cons rfl (.cons rfl .nil))) (c_Says hGH (by decide) (by decide)) ?_
  rintro _ w ⟨rfl, hE⟩; replace hS := hS.step hE; clear hE
  refine sv (yMove rfl) ?_
  refine sv (yExt rfl rfl) ?_
  refine sv (yExt rfl rfl) ?_
  refine salloc hS Try.zeroValue38 rfl ?_; clear hS; intro b5 w hS
  refine sst hS rfl rfl Try.sizeOf38 rfl rfl rfl rfl ?_; clear hS; intro w hS
  refine sv (yAsg rfl) ?_
  refine nil ?_
  show Code.wp _ _ _ _ _
  refine seq ?_
  refine region ?_
  refine smake (bytes := 80) (zs := [.string ⟨#[]⟩, .int .i64 0, .int .i64 0, .slice none 0 0, .slice none 0 0]) (m := 9) hS rfl rfl Try.underlying66 ti34 rfl rfl rfl rfl rfl (by omega) (by omega) ?_; clear hS; intro b26 w hS
  refine scall Try.call39 (.cons rfl (.cons rfl (.cons rfl .nil))) (c_AgreeE (l := List.replicate 9 zG) (sl_of_blk (css := List.replicate 9 [.string ⟨#[]⟩, .int .i64 0, .int .i64 0, .slice none 0 0, .slice none 0 0]) (hS.at b26) rfl (rows_rep rfl rg_zero 9) (by decide) rfl) (by decide) (by decide) (by rw [gaugesE_long (by decide)]; decide)) ?_
  rintro _ w ⟨rfl, hE⟩; replace hS := hS.step hE; clear hE
  refine sv (yMove rfl) ?_
  refine sv (yExt rfl rfl) ?_
  refine sv (yExt rfl rfl) ?_
  refine sv (yExt rfl rfl) ?_
  refine sv (yAsg rfl) ?_
  refine sv (yAsg rfl) ?_
  refine sv (yAsg rfl) ?_
  refine nil ?_
  show Code.wp _ _ _ _ _
  refine seq ?_
  refine region ?_
  refine sv (yMove rfl) ?_
  refine sv (yEql rfl rfl) ?_
  refine sv (yMove rfl) ?_
  refine sg rfl rfl rfl (fun g => (yMove rfl)) (fun v34 g34 => ?_)
  refine sg rfl rfl rfl (fun g => (yEql (g34.1 g) rfl)) (fun v35 g35 => ?_)
  refine sv (yAnd rfl (fun hB => (g35.1 hB)) rfl) ?_
  refine sv (yMove rfl) ?_
  refine sg rfl rfl rfl (fun g => (yMove rfl)) (fun v38 g38 => ?_)
  refine sg rfl rfl rfl (fun g => (yEql (g38.1 g) rfl)) (fun v39 g39 => ?_)
  refine sv (yAnd rfl (fun hB => (g39.1 hB)) rfl) ?_
  refine sv (yMove rfl) ?_
  refine sg rfl rfl rfl (fun g => (yMove rfl)) (fun v42 g42 => ?_)
  refine sg rfl rfl rfl (fun g => (yEql (g42.1 g) rfl)) (fun v43 g43 => ?_)
  refine sv (yAnd rfl (fun hB => (g43.1 hB)) rfl) ?_
  refine sv (yMove rfl) ?_
  refine sg rfl rfl rfl (fun g => (yLdBA rfl Try.isAgg38 Try.sizeOf38 (hS.at _) rfl rfl)) (fun v46 g46 => ?_)
  refine sg rfl rfl rfl (fun g => (yBuild Try.zeroValue38 rfl pl38 (.cons rfl rfl (.cons rfl rfl .nil)) rfl)) (fun v47 g47 => ?_)
  refine sg rfl rfl rfl (fun g => (eqS38 (g46.1 g) (g47.1 g))) (fun v48 g48 => ?_)
  refine sv (yAnd rfl (fun hB => (g48.1 hB)) rfl) ?_
  refine sv (yMove rfl) ?_
  refine sg rfl rfl rfl (fun g => (yLdBA rfl Try.isAgg38 Try.sizeOf38 (hS.at _) rfl rfl)) (fun v51 g51 => ?_)
  refine sg rfl rfl rfl (fun g => (yBuild Try.zeroValue38 rfl pl38 (.cons rfl rfl (.cons rfl rfl .nil)) rfl)) (fun v52 g52 => ?_)
  refine sg rfl rfl rfl (fun g => (eqS38 (g51.1 g) (g52.1 g))) (fun v53 g53 => ?_)
  refine sv (yAnd rfl (fun hB => (g53.1 hB)) rfl) ?_
  refine sv (yAsg rfl) ?_
  refine nil ?_
  show Code.wp _ _ _ _ _
  refine wp_ret ?_
  exact retV (res1 rfl (eqB (by rw [gaugesE_long (by decide)]; decide +kernel))) hS.ext
/-- barrage/barragelaw01.TideChecks -/
theorem w_TideChecks {s : ByteArray} {t : Table} {cs : List Value} {w0 : World} (hs : s.size ≤ 9223372036854775807) (ht : RTable w0 cs t) : CV Try.prog 3 #[.string s, .agg cs.toArray] w0 (.bool true) := by
  obtain ⟨cv, rfl, hmean, hsl⟩ := id ht
  obtain ⟨a, cap, rfl, hcap, hmx, hel⟩ := id hsl
  refine enter Try.func3 rfl Try.ntmps3 rfl ?_
  have hS := St.start w0
  refine seq ?_
  refine region ?_
  refine sbox hS rfl rfl ?_; clear hS; intro b3 w hS
  refine sv (yAsg rfl) ?_
  refine nil ?_
  show Code.wp _ _ _ _ _
  refine seq ?_
  refine region ?_
  refine sv (yLdBA rfl Try.isAgg24 Try.sizeOf24 (hS.at _) rfl rfl) ?_
  refine scall Try.call19 (.cons rfl .nil) (c_Check (ht.ext hS.ext)) ?_
  rintro _ w ⟨rfl, hE⟩; replace hS := hS.step hE; clear hE
  refine sv (yMove rfl) ?_
  refine sv (yExt rfl rfl) ?_
  refine sv (yExt rfl rfl) ?_
  refine sv (yAsg rfl) ?_
  refine sv (yAsg rfl) ?_
  refine nil ?_
  show Code.wp _ _ _ _ _
  refine seq ?_
  refine region ?_
  refine sv (yLdBA rfl Try.isAgg24 Try.sizeOf24 (hS.at _) rfl rfl) ?_
  refine scall Try.call20 (.cons rfl .nil) (c_rCheck (ht.ext hS.ext)) ?_
  rintro _ w ⟨rfl, hE⟩; replace hS := hS.step hE; clear hE
  refine sv (yMove rfl) ?_
  refine sv (yExt rfl rfl) ?_
  refine sv (yExt rfl rfl) ?_
  refine sv (yAsg rfl) ?_
  refine sv (yAsg rfl) ?_
  refine nil ?_
  show Code.wp _ _ _ _ _
  refine seq ?_
  refine region ?_
  refine sv (yMove rfl) ?_
  refine scall Try.call21 (.cons rfl .nil) (c_Name hs) ?_
  rintro _ w ⟨rfl, hE⟩; replace hS := hS.step hE; clear hE
  refine sv (yMove rfl) ?_
  refine scall Try.call22 (.cons rfl .nil) (c_rName hs) ?_
  rintro _ w ⟨rfl, hE⟩; replace hS := hS.step hE; clear hE
  refine sv (yBEq rfl rfl Try.underlying4) ?_
  refine sv (yMove rfl) ?_
  refine sg rfl rfl rfl (fun g => (yMove rfl)) (fun v25 g25 => ?_)
  refine sg rfl rfl rfl (fun g => (yMove rfl)) (fun v26 g26 => ?_)
  refine sg rfl rfl rfl (fun g => (yEql (g25.1 g) (g26.1 g))) (fun v27 g27 => ?_)
  refine sv (yAnd rfl (fun hB => (g27.1 hB)) rfl) ?_
  refine sv (yMove rfl) ?_
  refine sg rfl rfl rfl (fun g => (yMove rfl)) (fun v30 g30 => ?_)
  refine sg rfl rfl rfl (fun g => (yMove rfl)) (fun v31 g31 => ?_)
  refine sg rfl rfl rfl (fun g => (yEql (g30.1 g) (g31.1 g))) (fun v32 g32 => ?_)
  refine sv (yAnd rfl (fun hB => (g32.1 hB)) rfl) ?_
  refine sv (yMove rfl) ?_
  refine sgc hS rfl rfl rfl Try.call23 (fun g => .nil) (fun g => c_Awake) ?_; clear hS; intro v35 w hS g35
  refine sv (yAnd rfl (fun hB => (g35.1 hB)) rfl) ?_
  refine sv (yAsg rfl) ?_
  refine nil ?_
  show Code.wp _ _ _ _ _
  refine wp_ret ?_
  exact retV (res1 rfl (eqB (by simp))) hS.ext
/-- barrage/barragelaw01.TideSays -/
theorem w_TideSays {g : Gauge} {cs : List Value} {t now : Int} {w0 : World} (hg : RGauge w0 cs g) (ht : I64 t) (hn : I64 now) : CV Try.prog 4 #[.agg cs.toArray, .int .i64 t, .int .i64 now] w0 (.bool true) := by
  obtain ⟨dv, rv, rfl, hnm, hge, hgr, hsd, hsr⟩ := id hg
  obtain ⟨a, cap, rfl, hcap, hmx, hel⟩ := id hsd
  obtain ⟨a2, cap2, rfl, hcap2, hmx2, hel2⟩ := id hsr
  refine enter Try.func4 rfl Try.ntmps4 rfl ?_
  have hS := St.start w0
  refine seq ?_
  refine region ?_
  refine sbox hS rfl rfl ?_; clear hS; intro b3 w hS
  refine sv (yAsg rfl) ?_
  refine nil ?_
  show Code.wp _ _ _ _ _
  refine seq ?_
  refine region ?_
  refine sv (yLdBA rfl Try.isAgg34 Try.sizeOf34 (hS.at _) rfl rfl) ?_
  refine scall Try.call24 (.cons rfl .nil) (c_CheckGauge (hg.ext hS.ext)) ?_
  rintro _ w ⟨rfl, hE⟩; replace hS := hS.step hE; clear hE
  refine sv (yMove rfl) ?_
  refine sv (yExt rfl rfl) ?_
  refine sv (yExt rfl rfl) ?_
  refine sv (yExt rfl rfl) ?_
  refine sv (yAsg rfl) ?_
  refine sv (yAsg rfl) ?_
  refine sv (yAsg rfl) ?_
  refine nil ?_
  show Code.wp _ _ _ _ _
  refine seq ?_
  refine region ?_
  refine sv (yLdBA rfl Try.isAgg34 Try.sizeOf34 (hS.at _) rfl rfl) ?_
  refine scall Try.call25 (.cons rfl .nil) (c_rCheckGauge (hg.ext hS.ext)) ?_
  rintro _ w ⟨rfl, hE⟩; replace hS := hS.step hE; clear hE
  refine sv (yMove rfl) ?_
  refine sv (yExt rfl rfl) ?_
  refine sv (yExt rfl rfl) ?_
  refine sv (yExt rfl rfl) ?_
  refine sv (yAsg rfl) ?_
  refine sv (yAsg rfl) ?_
  refine sv (yAsg rfl) ?_
  refine nil ?_
  show Code.wp _ _ _ _ _
  refine seq ?_
  refine seq ?_
  refine region ?_
  refine sv (yMove rfl) ?_
  refine sv (yMove rfl) ?_
  refine sv (yNeq rfl rfl) ?_
  refine sv (yMove rfl) ?_
  refine sg rfl rfl rfl (fun g => (yMove rfl)) (fun v31 g31 => ?_)
  refine sg rfl rfl rfl (fun g => (yMove rfl)) (fun v32 g32 => ?_)
  refine sg rfl rfl rfl (fun g => (yNeq (g31.1 g) (g32.1 g))) (fun v33 g33 => ?_)
  refine sv (yOr rfl rfl (fun hB => (g33.1 hB))) ?_
  refine sv (yMove rfl) ?_
  refine sg rfl rfl rfl (fun g => (yMove rfl)) (fun v36 g36 => ?_)
  refine sg rfl rfl rfl (fun g => (yMove rfl)) (fun v37 g37 => ?_)
  refine sg rfl rfl rfl (fun g => (yNeq (g36.1 g) (g37.1 g))) (fun v38 g38 => ?_)
  refine sv (yOr rfl rfl (fun hB => (g38.1 hB))) ?_
  refine nil ?_
  show Code.wp _ _ _ _ _
  refine cond rfl (fun c39 => ?_) (fun c39 => ?_)
  ·
    exact absurd c39 (by simp)
  ·
    refine skip ?_
    show Code.wp _ _ _ _ _
    refine seq ?_
    refine region ?_
    refine sv (yLdBA rfl Try.isAgg34 Try.sizeOf34 (hS.at _) rfl rfl) ?_
    refine sv (yMove rfl) ?_
    refine sv (yMove rfl) ?_
    refine scall Try.call26 (.cons rfl (.cons rfl (.cons rfl .nil))) (c_Says (hg.ext hS.ext) ht hn) ?_
    rintro _ w ⟨rfl, hE⟩; replace hS := hS.step hE; clear hE
    refine sv (yMove rfl) ?_
    refine sv (yExt rfl rfl) ?_
    refine sv (yExt rfl rfl) ?_
    refine salloc hS Try.zeroValue38 rfl ?_; clear hS; intro b13 w hS
    refine sst hS rfl rfl Try.sizeOf38 rfl rfl rfl rfl ?_; clear hS; intro w hS
    refine sv (yAsg rfl) ?_
    refine nil ?_
    show Code.wp _ _ _ _ _
    refine seq ?_
    refine region ?_
    refine sv (yLdBA rfl Try.isAgg34 Try.sizeOf34 (hS.at _) rfl rfl) ?_
    refine sv (yMove rfl) ?_
    refine sv (yMove rfl) ?_
    refine scall Try.call27 (.cons rfl (.cons rfl (.cons rfl .nil))) (c_rSays (hg.ext hS.ext)) ?_
    rintro _ w ⟨rfl, hE⟩; replace hS := hS.step hE; clear hE
    refine sv (yMove rfl) ?_
    refine sv (yExt rfl rfl) ?_
    refine sv (yExt rfl rfl) ?_
    refine salloc hS Try.zeroValue38 rfl ?_; clear hS; intro b14 w hS
    refine sst hS rfl rfl Try.sizeOf38 rfl rfl rfl rfl ?_; clear hS; intro w hS
    refine sv (yAsg rfl) ?_
    refine nil ?_
    show Code.wp _ _ _ _ _
    refine seq ?_
    refine region ?_
    refine sv (yLdBA rfl Try.isAgg38 Try.sizeOf38 (hS.at _) rfl rfl) ?_
    refine sv (yLdBA rfl Try.isAgg38 Try.sizeOf38 (hS.at _) rfl rfl) ?_
    refine sv (eqS38 rfl rfl) ?_
    refine sv (yMove rfl) ?_
    refine sg rfl rfl rfl (fun g => (yMove rfl)) (fun v58 g58 => ?_)
    refine sg rfl rfl rfl (fun g => (yMove rfl)) (fun v59 g59 => ?_)
    refine sg rfl rfl rfl (fun g => (yEql (g58.1 g) (g59.1 g))) (fun v60 g60 => ?_)
    refine sv (yAnd rfl (fun hB => (g60.1 hB)) rfl) ?_
    refine sv (yMove rfl) ?_
    refine sgc hS rfl rfl rfl Try.call23 (fun g => .nil) (fun g => c_Awake) ?_; clear hS; intro v63 w hS g63
    refine sv (yAnd rfl (fun hB => (g63.1 hB)) rfl) ?_
    refine sv (yAsg rfl) ?_
    refine nil ?_
    show Code.wp _ _ _ _ _
    refine wp_ret ?_
    exact retV (res1 rfl (eqB (by simp))) hS.ext
end Go.Proofs.Ytpgmehignepidaa
