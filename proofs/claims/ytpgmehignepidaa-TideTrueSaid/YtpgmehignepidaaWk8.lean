/- Walks, part Wk8. -/
import Derived.Test.YtpgmehignepidaaWk7
import Derived.Test.YtpgmehignepidaaP7
set_option linter.all false
namespace Go.Proofs.Ytpgmehignepidaa
open Go Bx
set_option maxHeartbeats 1000000 in
/-- barrage/tide.gauges -/
theorem c_gauges {l : List Gauge} {v : Value} {t now : Int} {w0 : World} (hl : Sl w0 5 RGauge v l) (ht : I64 t) (hn : I64 now) : CV Try.prog 76 #[v, .int .i64 t, .int .i64 now] w0 (.int .i64 (gaugesE l t now)) := by
  obtain ⟨a, cap, rfl, hcap, hmx, hel⟩ := id hl
  refine enter Try.func76 rfl Try.ntmps76 rfl ?_
  have hS := St.start w0
  refine seq ?_
  refine region ?_
  refine sv (yAsg rfl) ?_
  refine nil ?_
  show Code.wp _ _ _ _ _
  refine seq ?_
  refine seq ?_
  refine region ?_
  refine sv (yMove rfl) ?_
  refine sv (yLen rfl Try.underlying66) ?_
  refine sv (yGtr rfl rfl) ?_
  refine nil ?_
  show Code.wp _ _ _ _ _
  refine cond rfl (fun c15 => ?_) (fun c15 => ?_)
  ·
    simp only [Bool.and_eq_true, Bool.or_eq_true, Bool.and_eq_false_iff, Bool.or_eq_false_iff, decide_eq_true_eq, decide_eq_false_iff_not, Bool.not_eq_true, Bool.not_eq_false, Bool.not_not, Bool.not_eq_eq_eq_not, Bool.not_true, Bool.not_false, Bool.false_eq_true, Bool.true_eq_false, ne_eq, Decidable.not_not, not_false_eq_true, not_true_eq_false] at c15
    refine seq ?_
    refine region ?_
    refine sv (yAsg rfl) ?_
    refine nil ?_
    show Code.wp _ _ _ _ _
    have hfin : gaugesE l t now = 3 := by unfold gaugesE; rw [if_pos c15]
    refine wp_ret (thenR ?_)
    exact retV (res1 rfl (eqI hfin)) hS.ext
  ·
    simp only [Bool.and_eq_true, Bool.or_eq_true, Bool.and_eq_false_iff, Bool.or_eq_false_iff, decide_eq_true_eq, decide_eq_false_iff_not, Bool.not_eq_true, Bool.not_eq_false, Bool.not_not, Bool.not_eq_eq_eq_not, Bool.not_true, Bool.not_false, Bool.false_eq_true, Bool.true_eq_false, ne_eq, Decidable.not_not, not_false_eq_true, not_true_eq_false] at c15
    refine skip ?_
    show Code.wp _ _ _ _ _
    refine seq ?_
    refine region ?_
    refine smkmap Value.string hS ?_; clear hS; intro b16 w hS
    refine sv (yAsg rfl) ?_
    refine nil ?_
    show Code.wp _ _ _ _ _
    refine seq ?_
    refine seq ?_
    refine region ?_
    refine sv (yMove rfl) ?_
    refine sv (yLen rfl Try.underlying66) ?_
    refine sv (yMove rfl) ?_
    refine nil ?_
    show Code.wp _ _ _ _ _
    refine block ?_
    refine loop (fun f w m => ∃ (k : Nat), f 0 = .slice a l.length cap ∧ f 1 = .int .i64 t ∧ f 2 = .int .i64 now ∧ f 7 = .map (some b16) ∧ f 17 = .slice a l.length cap ∧ f 18 = .int .i64 (l.length : Int) ∧ f 19 = .int .i64 (k : Int) ∧ St w0 w [mapI b16 Value.string (seenM (uniq (namesG (l.take k))))] ∧ (k ≤ l.length) ∧ (gErrs l = gErrs (l.drop k)) ∧ m = l.length - k) _ ⟨_, rfl, 0, rfl, rfl, rfl, rfl, rfl, rfl, rfl, hS, (Nat.zero_le _), (rfl), rfl⟩ ?_
    clear hS
    rintro f w _ ⟨k, h0, h1, h2, h7, h17, h18, h19, hS, hk, hI, rfl⟩
    refine seq ?_
    refine region ?_
    refine sv (yLss h19 h18) ?_
    refine nil ?_
    show Code.wp _ _ _ _ _
    refine seq ?_
    refine cond rfl (fun c20 => ?_) (fun c20 => ?_)
    ·
      simp only [Bool.and_eq_true, Bool.or_eq_true, Bool.and_eq_false_iff, Bool.or_eq_false_iff, decide_eq_true_eq, decide_eq_false_iff_not, Bool.not_eq_true, Bool.not_eq_false, Bool.not_not, Bool.not_eq_eq_eq_not, Bool.not_true, Bool.not_false, Bool.false_eq_true, Bool.true_eq_false, ne_eq, Decidable.not_not, not_false_eq_true, not_true_eq_false] at c20
      refine skip ?_
      show Code.wp _ _ _ _ _
      refine seq ?_
      refine block ?_
      refine seq ?_
      refine region ?_
      obtain ⟨g, hx, hd⟩ := drop_of (l := l) (k := k) (by omega)
      obtain ⟨b, o, cs, ha, hlen, hcs, hR⟩ := hel (k) (by omega)
      obtain rfl : g = l[k] := (List.getElem?_eq_some_iff.1 hx).2.symm
      generalize l[k] = g at hx hd hR
      have hg := hR
      obtain ⟨dv, rv, hcse, hnm, hge, hgr, hsd, hsr⟩ := id hg
      subst hcse
      obtain ⟨a1, cap1, rfl, hcap1, hmx1, hel1⟩ := id hsd
      obtain ⟨a2, cap2, rfl, hcap2, hmx2, hel2⟩ := id hsr
      refine sv (yIxa h17 ha h19 Try.runUnderlying66 Try.sizeOf34 (by omega) (by omega)) ?_
      refine sv (yLdA rfl Try.isAgg34 Try.sizeOf34 (hcs.ext hS.ext) rfl) ?_
      refine salloc hS Try.zeroValue34 rfl ?_; clear hS; intro b9 w hS
      refine sst hS rfl rfl Try.sizeOf34 rfl rfl rfl rfl ?_; clear hS; intro w hS
      refine nil ?_
      show Code.wp _ _ _ _ _
      refine seq ?_
      refine seq ?_
      refine region ?_
      refine sv (yLdBA rfl Try.isAgg34 Try.sizeOf34 (hS.at _) rfl rfl) ?_
      refine scall Try.call24 (.cons rfl .nil) (c_CheckGauge (hg.ext hS.ext)) ?_
      rintro _ w ⟨rfl, hE⟩; replace hS := hS.step hE; clear hE
      refine sv (yMove rfl) ?_
      refine sv (yExt rfl rfl) ?_
      refine sv (yExt rfl rfl) ?_
      refine sv (yExt rfl rfl) ?_
      refine sv (yAsg rfl) ?_
      refine sv (yAsg rfl) ?_
      refine sv (yAsg rfl) ?_
      refine nil ?_
      show Code.wp _ _ _ _ _
      refine seq ?_
      refine region ?_
      refine sv (yMove rfl) ?_
      refine sv (yNeq rfl rfl) ?_
      refine nil ?_
      show Code.wp _ _ _ _ _
      refine cond rfl (fun c30 => ?_) (fun c30 => ?_)
      ·
        simp only [Bool.and_eq_true, Bool.or_eq_true, Bool.and_eq_false_iff, Bool.or_eq_false_iff, decide_eq_true_eq, decide_eq_false_iff_not, Bool.not_eq_true, Bool.not_eq_false, Bool.not_not, Bool.not_eq_eq_eq_not, Bool.not_true, Bool.not_false, Bool.false_eq_true, Bool.true_eq_false, ne_eq, Decidable.not_not, not_false_eq_true, not_true_eq_false] at c30
        refine seq ?_
        refine region ?_
        refine sv (yMove rfl) ?_
        refine sv (yAsg rfl) ?_
        refine nil ?_
        show Code.wp _ _ _ _ _
        have hfin : gaugesE l t now = (checkG g).2.2 := by unfold gaugesE; rw [if_neg c15, if_pos (by rw [gErrs_bad hd hI c30]; exact c30), gErrs_bad hd hI c30]
        refine wp_ret (thenR (blockR (thenR (thenR (blockR (thenR ?_))))))
        exact retV (res1 rfl (eqI hfin)) hS.ext
      ·
        simp only [Bool.and_eq_true, Bool.or_eq_true, Bool.and_eq_false_iff, Bool.or_eq_false_iff, decide_eq_true_eq, decide_eq_false_iff_not, Bool.not_eq_true, Bool.not_eq_false, Bool.not_not, Bool.not_eq_eq_eq_not, Bool.not_true, Bool.not_false, Bool.false_eq_true, Bool.true_eq_false, ne_eq, Decidable.not_not, not_false_eq_true, not_true_eq_false] at c30
        refine skip ?_
        show Code.wp _ _ _ _ _
        refine region ?_
        refine sv (yMove h7) ?_
        refine sv (fa34_0 rfl) ?_
        refine sv (yLdB rfl Try.isAgg9 (hS.at _) rfl) ?_
        refine smapset Value.string hS rfl rfl rfl Try.runUnderlying97 (keyStr Try.underlying9) ?_; clear hS; intro w hS
        refine nil ?_
        show Code.wp _ _ _ _ _
        refine region ?_
        refine sv (yAdd h19 rfl ⟨by omega, by omega⟩) ?_
        refine sv (yMove rfl) ?_
        refine nil ?_
        exact ⟨_, _, rfl, ⟨k + 1, h0, h1, h2, h7, h17, h18, rfl, (by rw [names_take hx, ← setM_uniq]; exact hS.sub (.cons _ (List.Sublist.refl _))), (by omega), (gErrs_take hd hI c30), rfl⟩, by omega⟩
    ·
      simp only [Bool.and_eq_true, Bool.or_eq_true, Bool.and_eq_false_iff, Bool.or_eq_false_iff, decide_eq_true_eq, decide_eq_false_iff_not, Bool.not_eq_true, Bool.not_eq_false, Bool.not_not, Bool.not_eq_eq_eq_not, Bool.not_true, Bool.not_false, Bool.false_eq_true, Bool.true_eq_false, ne_eq, Decidable.not_not, not_false_eq_true, not_true_eq_false] at c20
      obtain rfl : k = l.length := by omega
      rw [List.drop_length] at hI
      have hI0 : gErrs l = 0 := hI
      rw [List.take_length] at hS
      have hun := uniq_le (namesG l)
      rw [names_len] at hun
      refine exit ?_
      show Code.wp _ _ _ _ _
      refine seq ?_
      refine seq ?_
      refine region ?_
      refine sv (yMove h7) ?_
      refine sv (yLenM rfl Try.underlying97 (hS.is b16)) ?_
      refine sv (yMove h0) ?_
      refine sv (yLen rfl Try.underlying66) ?_
      refine sv (yLss rfl rfl) ?_
      refine nil ?_
      show Code.wp _ _ _ _ _
      refine cond rfl (fun c40 => ?_) (fun c40 => ?_)
      ·
        simp only [Bool.and_eq_true, Bool.or_eq_true, Bool.and_eq_false_iff, Bool.or_eq_false_iff, decide_eq_true_eq, decide_eq_false_iff_not, Bool.not_eq_true, Bool.not_eq_false, Bool.not_not, Bool.not_eq_eq_eq_not, Bool.not_true, Bool.not_false, Bool.false_eq_true, Bool.true_eq_false, ne_eq, Decidable.not_not, not_false_eq_true, not_true_eq_false, seenM, List.length_map] at c40
        refine seq ?_
        refine region ?_
        refine sv (yAsg rfl) ?_
        refine nil ?_
        show Code.wp _ _ _ _ _
        have hfin : gaugesE l t now = 5 := by unfold gaugesE; rw [if_neg c15, if_neg (fun h => h hI0), if_pos (fun h => by have := hun.2.2 h; omega)]
        refine wp_ret (thenR ?_)
        exact retV (res1 rfl (eqI hfin)) hS.ext
      ·
        simp only [Bool.and_eq_true, Bool.or_eq_true, Bool.and_eq_false_iff, Bool.or_eq_false_iff, decide_eq_true_eq, decide_eq_false_iff_not, Bool.not_eq_true, Bool.not_eq_false, Bool.not_not, Bool.not_eq_eq_eq_not, Bool.not_true, Bool.not_false, Bool.false_eq_true, Bool.true_eq_false, ne_eq, Decidable.not_not, not_false_eq_true, not_true_eq_false, seenM, List.length_map] at c40
        refine skip ?_
        show Code.wp _ _ _ _ _
        refine seq ?_
        refine region ?_
        refine sv (yMove h1) ?_
        refine sv (yMove h2) ?_
        refine sbslice hS Try.underlying44 Try.sizeOf3 rfl Try.zeroValue3 rfl (.cons rfl rfl (.cons rfl rfl .nil)) rfl ?_; clear hS; intro b43 w hS
        refine scall Try.call68 (.cons rfl .nil) (c_ticks (l := [t, now]) (ints_sl (l := [t, now]) (hS.at b43) (by simp; exact ⟨ht, hn⟩) (Nat.le_of_ble_eq_true rfl))) ?_
        rintro _ w ⟨rfl, hE⟩; replace hS := hS.step hE; clear hE
        refine sv (yAsg rfl) ?_
        refine nil ?_
        show Code.wp _ _ _ _ _
        have hfin : gaugesE l t now = ticksE [t, now] := by unfold gaugesE; rw [if_neg c15, if_neg (fun h => h hI0), if_neg (fun h => h (hun.2.1 (by omega)))]
        refine wp_ret ?_
        exact retV (res1 rfl (eqI hfin)) hS.ext
/-- barrage/barragelaw01.Table -/
theorem c_Table {w0 : World} : CE Try.prog 49 #[] w0 (fun v w' => ∃ cs, v = .agg cs.toArray ∧ RTable w' cs exT ∧ Ext w0 w') := by
  refine enter Try.func49 rfl Try.ntmps49 rfl ?_
  have hS := St.start w0
  refine seq ?_
  refine region ?_
  refine salloc hS Try.zeroValue24 rfl ?_; clear hS; intro b0 w hS
  refine nil ?_
  show Code.wp _ _ _ _ _
  refine seq ?_
  refine region ?_
  refine sbslice hS Try.underlying44 Try.sizeOf3 rfl Try.zeroValue3 rfl (.cons rfl rfl (.cons rfl rfl (.cons rfl rfl (.cons rfl rfl .nil)))) rfl ?_; clear hS; intro b1 w hS
  refine sv (yBuild Try.zeroValue46 rfl pl46 (.cons rfl rfl (.cons rfl rfl (.cons rfl rfl (.cons rfl rfl (.cons rfl rfl .nil))))) rfl) ?_
  refine sbslice hS Try.underlying22 Try.sizeOf46 rfl Try.zeroValue46 rfl (.cons rfl rfl .nil) rfl ?_; clear hS; intro b3 w hS
  refine sv (yBuild Try.zeroValue24 rfl pl24 (.cons rfl rfl (.cons rfl rfl .nil)) rfl) ?_
  refine sst hS rfl rfl Try.sizeOf24 rfl rfl rfl rfl ?_; clear hS; intro w hS
  refine nil ?_
  show Code.wp _ _ _ _ _
  refine wp_ret ?_
  refine retQ (resV1 rfl (rc rfl Try.isAgg24 Try.sizeOf24 (hS.at _) rfl rfl)) ?_
  refine ⟨_, rfl, ⟨_, rfl, by decide, ?_⟩, hS.ext⟩
  refine sl_of_blk (hS.at b3) (css := [[.string ⟨#[109, 111, 111, 110]⟩, .slice (some ⟨b1, 0, none⟩) 4 4, .int .i64 0, .int .i64 2, .int .i64 37, .int .i64 10]]) rfl ⟨rfl, ⟨_, rfl, by decide, ?_, by decide, by decide, by decide, by decide⟩, trivial⟩ (by decide) rfl
  exact sl_of_blk (hS.at b1) (css := [_, _, _, _]) rfl ⟨rfl, ⟨rfl, by decide⟩, rfl, ⟨rfl, by decide⟩, rfl, ⟨rfl, by decide⟩, rfl, ⟨rfl, by decide⟩, trivial⟩ (by decide) rfl
/-- barrage/barragelaw01.Gauge -/
theorem c_Gauge {w0 : World} : CE Try.prog 50 #[] w0 (fun v w' => ∃ cs, v = .agg cs.toArray ∧ RGauge w' cs exG ∧ Ext w0 w') := by
  refine enter Try.func50 rfl Try.ntmps50 rfl ?_
  have hS := St.start w0
  refine seq ?_
  refine region ?_
  refine salloc hS Try.zeroValue34 rfl ?_; clear hS; intro b0 w hS
  refine nil ?_
  show Code.wp _ _ _ _ _
  refine seq ?_
  refine region ?_
  refine sv (yBuild Try.zeroValue78 rfl pl78 .nil rfl) ?_
  refine sv (yBuild Try.zeroValue38 rfl pl38 (.cons rfl rfl (.cons rfl rfl .nil)) rfl) ?_
  refine sv (yBuild Try.zeroValue78 rfl pl78 (.cons rfl rfl (.cons rfl rfl .nil)) rfl) ?_
  refine sbslice hS Try.underlying31 Try.sizeOf78 rfl Try.zeroValue78 rfl (.cons rfl rfl (.cons rfl rfl .nil)) rfl ?_; clear hS; intro b4 w hS
  refine sv (yBuild Try.zeroValue103 rfl pl103 (.cons rfl rfl (.cons rfl rfl .nil)) rfl) ?_
  refine sv (yBuild Try.zeroValue103 rfl pl103 (.cons rfl rfl (.cons rfl rfl .nil)) rfl) ?_
  refine sbslice hS Try.underlying32 Try.sizeOf103 rfl Try.zeroValue103 rfl (.cons rfl rfl (.cons rfl rfl .nil)) rfl ?_; clear hS; intro b7 w hS
  refine sv (yBuild Try.zeroValue34 rfl pl34 (.cons rfl rfl (.cons rfl rfl (.cons rfl rfl (.cons rfl rfl (.cons rfl rfl .nil))))) rfl) ?_
  refine sst hS rfl rfl Try.sizeOf34 rfl rfl rfl rfl ?_; clear hS; intro w hS
  refine nil ?_
  show Code.wp _ _ _ _ _
  refine wp_ret ?_
  refine retQ (resV1 rfl (rc rfl Try.isAgg34 Try.sizeOf34 (hS.at _) rfl rfl)) ?_
  refine ⟨_, rfl, ⟨_, _, rfl, by decide, by decide, by decide, ?_, ?_⟩, hS.ext⟩
  · exact sl_of_blk (hS.at b4) (css := [_, _]) rfl ⟨rfl, ⟨rfl, by decide, by decide, by decide⟩, rfl, ⟨rfl, by decide, by decide, by decide⟩, trivial⟩ (by decide) rfl
  · exact sl_of_blk (hS.at b7) (css := [_, _]) rfl ⟨rfl, ⟨rfl, by decide, by decide⟩, rfl, ⟨rfl, by decide, by decide⟩, trivial⟩ (by decide) rfl
end Go.Proofs.Ytpgmehignepidaa
