/- Merged texts, part 5. -/
import Derived.Test.YtmoilbakmlekbaaGreatDoorQ4
import Derived.Test.YtmoilbakmlekbaaGreatDoorProg
import Derived.Test.YtmoilbakmlekbaaGreatDoorRows
import Derived.ChangeSame
import Derived.ChangeVars
import Derived.JoinedOf
import Derived.RowKit
import Derived.RowKitTokens
import Derived.LaidLaws
import Derived.LaidHandle
import Derived.Stop.Joined
set_option linter.all false
/- part Aw17 -/
namespace Go.Proofs.YtmoilbakmlekbaaGreatDoor
open Go Bx
set_option maxHeartbeats 2000000 in
/-- barrage/barragelaw11.Task -/
theorem c_Task {w0 : World} : CE Tryz.prog 42 #[] w0 (fun u w' => ∃ hv nv fv, u = .agg [.int .i64 exT.polders, hv, nv, fv].toArray ∧ RTask w' [.int .i64 exT.polders, hv, nv, fv] exT ∧ Ext w0 w') := by
  refine enter Tryz.func42 rfl Tryz.ntmps42 rfl ?_
  have hS := St.start w0
  refine seq ?_
  refine region ?_
  refine salloc hS Tryz.zeroValue26 rfl ?_; clear hS; intro b0 w hS
  refine nil ?_
  show Code.wp _ _ _ _ _
  refine seq ?_
  refine region ?_
  refine sv (yBuild Tryz.zeroValue41 rfl pl41 (.cons rfl rfl (.cons rfl rfl .nil)) rfl) ?_
  refine sv (yBuild Tryz.zeroValue41 rfl pl41 (.cons rfl rfl (.cons rfl rfl (.cons rfl rfl .nil))) rfl) ?_
  refine sbslice hS Tryz.underlying22 Tryz.sizeOf41 rfl Tryz.zeroValue41 rfl (.cons rfl rfl (.cons rfl rfl .nil)) rfl ?_; clear hS; intro b3 w hS
  refine sbslice hS Tryz.underlying34 Tryz.sizeOf3 rfl Tryz.zeroValue3 rfl (.cons rfl rfl (.cons rfl rfl .nil)) rfl ?_; clear hS; intro b4 w hS
  refine sv (yBuild Tryz.zeroValue36 rfl pl36 (.cons rfl rfl (.cons rfl rfl (.cons rfl rfl (.cons rfl rfl .nil)))) rfl) ?_
  refine sbslice hS Tryz.underlying34 Tryz.sizeOf3 rfl Tryz.zeroValue3 rfl (.cons rfl rfl .nil) rfl ?_; clear hS; intro b6 w hS
  refine sv (yBuild Tryz.zeroValue36 rfl pl36 (.cons rfl rfl (.cons rfl rfl (.cons rfl rfl (.cons rfl rfl .nil)))) rfl) ?_
  refine sbslice hS Tryz.underlying34 Tryz.sizeOf3 rfl Tryz.zeroValue3 rfl (.cons rfl rfl .nil) rfl ?_; clear hS; intro b8 w hS
  refine sv (yBuild Tryz.zeroValue36 rfl pl36 (.cons rfl rfl (.cons rfl rfl (.cons rfl rfl (.cons rfl rfl .nil)))) rfl) ?_
  refine sbslice hS Tryz.underlying23 Tryz.sizeOf36 rfl Tryz.zeroValue36 rfl (.cons rfl rfl (.cons rfl rfl (.cons rfl rfl .nil))) rfl ?_; clear hS; intro b10 w hS
  refine sbslice hS Tryz.underlying34 Tryz.sizeOf3 rfl Tryz.zeroValue3 rfl (.cons rfl rfl (.cons rfl rfl .nil)) rfl ?_; clear hS; intro b11 w hS
  refine sbslice hS Tryz.underlying34 Tryz.sizeOf3 rfl Tryz.zeroValue3 rfl (.cons rfl rfl (.cons rfl rfl .nil)) rfl ?_; clear hS; intro b12 w hS
  refine sbslice hS Tryz.underlying24 Tryz.sizeOf34 rfl Tryz.zeroValue34 rfl (.cons rfl rfl (.cons rfl rfl .nil)) rfl ?_; clear hS; intro b13 w hS
  refine sv (yBuild Tryz.zeroValue26 rfl pl26 (.cons rfl rfl (.cons rfl rfl (.cons rfl rfl (.cons rfl rfl .nil)))) rfl) ?_
  refine sst hS rfl rfl Tryz.sizeOf26 rfl rfl rfl rfl ?_; clear hS; intro w hS
  refine nil ?_
  show Code.wp _ _ _ _ _
  refine wp_ret ?_
  refine retQ (resV1 rfl (rc rfl Tryz.isAgg26 Tryz.sizeOf26 (hS.at b0) rfl rfl)) ?_
  exact ⟨_, _, _, rfl, ⟨_, _, _, rfl, by decide, (show Sl w 3 RChan (.slice (some ⟨b3, 0, none⟩) 2 2) ([exC1, exC2] : List Chan) from sl_of_blk (hS.at b3) (css := [[.string ⟨#[115, 105, 114, 101, 110]⟩, .int .i64 0, .int .i64 1], [.string ⟨#[114, 97, 100, 105, 111]⟩, .int .i64 2, .int .i64 2]]) (l := ([exC1, exC2] : List Chan)) rfl ⟨rfl, ⟨rfl, by decide, by decide, by decide⟩, rfl, ⟨rfl, by decide, by decide, by decide⟩, trivial⟩ (by decide) rfl), (show Sl w 5 RTown (.slice (some ⟨b10, 0, none⟩) 3 3) ([exT1, exT2, exT3] : List Town) from sl_of_blk (hS.at b10) (css := [[.string ⟨#[100, 105, 107, 101]⟩, .int .i64 0, .int .i64 3, .int .i64 4, .slice (some ⟨b4, 0, none⟩) 2 2], [.string ⟨#[109, 105, 108, 108]⟩, .int .i64 0, .int .i64 5, .int .i64 6, .slice (some ⟨b6, 0, none⟩) 1 1], [.string ⟨#[104, 105, 108, 108]⟩, .int .i64 1, .int .i64 0, .int .i64 10, .slice (some ⟨b8, 0, none⟩) 1 1]]) (l := ([exT1, exT2, exT3] : List Town)) rfl ⟨rfl, ⟨_, rfl, by decide, by decide, by decide, by decide, (ints_sl (l := [0, 1]) (hS.at b4) (by decide) (by decide)), (Nat.le_of_ble_eq_true rfl)⟩, rfl, ⟨_, rfl, by decide, by decide, by decide, by decide, (ints_sl (l := [0]) (hS.at b6) (by decide) (by decide)), (Nat.le_of_ble_eq_true rfl)⟩, rfl, ⟨_, rfl, by decide, by decide, by decide, by decide, (ints_sl (l := [1]) (hS.at b8) (by decide) (by decide)), (Nat.le_of_ble_eq_true rfl)⟩, trivial⟩ (by decide) rfl), (show Sl w 1 RRow (.slice (some ⟨b13, 0, none⟩) 2 2) ([[20, -1], [24, 40]] : List (List Int)) from sl_of_blk (hS.at b13) (css := [[.slice (some ⟨b11, 0, none⟩) 2 2], [.slice (some ⟨b12, 0, none⟩) 2 2]]) (l := ([[20, -1], [24, 40]] : List (List Int))) rfl ⟨rfl, ⟨_, rfl, (ints_sl (l := [20, -1]) (hS.at b11) (by decide) (by decide))⟩, rfl, ⟨_, rfl, (ints_sl (l := [24, 40]) (hS.at b12) (by decide) (by decide))⟩, trivial⟩ (by decide) rfl)⟩, hS.ext⟩
set_option maxHeartbeats 2000000 in
/-- barrage/barragelaw11.Log -/
theorem c_Log {w0 : World} : CE Tryz.prog 43 #[] w0 (fun u w' => Sl w' 5 RMsg u exL ∧ Ext w0 w') := by
  refine enter Tryz.func43 rfl Tryz.ntmps43 rfl ?_
  have hS := St.start w0
  refine seq ?_
  refine region ?_
  refine sv (yAsg rfl) ?_
  refine nil ?_
  show Code.wp _ _ _ _ _
  refine seq ?_
  refine region ?_
  refine sv (yBuild Tryz.zeroValue70 rfl pl70 (.cons rfl rfl (.cons rfl rfl (.cons rfl rfl (.cons rfl rfl (.cons rfl rfl .nil))))) rfl) ?_
  refine sv (yBuild Tryz.zeroValue70 rfl pl70 (.cons rfl rfl (.cons rfl rfl (.cons rfl rfl (.cons rfl rfl (.cons rfl rfl .nil))))) rfl) ?_
  refine sbslice hS Tryz.underlying62 Tryz.sizeOf70 rfl Tryz.zeroValue70 rfl (.cons rfl rfl (.cons rfl rfl .nil)) rfl ?_; clear hS; intro b3 w hS
  refine sv (yAsg rfl) ?_
  refine nil ?_
  show Code.wp _ _ _ _ _
  refine wp_ret ?_
  refine retQ (res1 rfl rfl) ?_
  exact ⟨(show Sl w 5 RMsg (.slice (some ⟨b3, 0, none⟩) 2 2) ([⟨1, 0, 2, 0, 18⟩, ⟨2, 2, 1, 1, 18⟩] : List Msg) from sl_of_blk (hS.at b3) (css := [[.int .i64 1, .int .i64 0, .int .i64 2, .int .i64 0, .int .i64 18], [.int .i64 2, .int .i64 2, .int .i64 1, .int .i64 1, .int .i64 18]]) (l := ([⟨1, 0, 2, 0, 18⟩, ⟨2, 2, 1, 1, 18⟩] : List Msg)) rfl ⟨rfl, ⟨rfl, by decide, by decide, by decide, by decide, by decide⟩, rfl, ⟨rfl, by decide, by decide, by decide, by decide, by decide⟩, trivial⟩ (by decide) rfl), hS.ext⟩
/-- barrage/barrageref11.Messages -/
theorem c_Msgs {la lb : List Msg} {va vb : Value} {w0 : World} (ha : Sl w0 5 RMsg va la) (hb : Sl w0 5 RMsg vb lb) : CV Tryz.prog 35 #[va, vb] w0 (.bool (decide (la = lb))) := by
  obtain ⟨aa, ca, rfl, hca, hma, hela⟩ := ha
  obtain ⟨ab, cb, rfl, hcb, hmb, helb⟩ := hb
  refine enter Tryz.func35 rfl Tryz.ntmps35 rfl ?_
  have hS := St.start w0
  refine seq ?_
  refine region ?_
  refine sv (yAsg rfl) ?_
  refine nil ?_
  show Code.wp _ _ _ _ _
  refine seq ?_
  refine seq ?_
  refine region ?_
  refine sv (yMove rfl) ?_
  refine sv (yLen rfl Tryz.underlying62) ?_
  refine sv (yMove rfl) ?_
  refine sv (yLen rfl Tryz.underlying62) ?_
  refine sv (yNeq rfl rfl) ?_
  refine nil ?_
  show Code.wp _ _ _ _ _
  refine cond rfl (fun c10 => ?_) (fun c10 => ?_)
  ·
    simp only [Bool.and_eq_true, Bool.or_eq_true, Bool.and_eq_false_iff, Bool.or_eq_false_iff, decide_eq_true_eq, decide_eq_false_iff_not, Bool.not_eq_true, Bool.not_eq_false, Bool.not_not, Bool.not_eq_eq_eq_not, Bool.not_true, Bool.not_false, Bool.false_eq_true, Bool.true_eq_false, ne_eq, Decidable.not_not, not_false_eq_true, not_true_eq_false] at c10
    refine seq ?_
    refine region ?_
    refine sv (yAsg rfl) ?_
    refine nil ?_
    show Code.wp _ _ _ _ _
    refine wp_ret (thenR ?_)
    exact retV (res1 rfl (eqB (by rw [decide_eq_false (fun h => by rw [h] at c10; exact c10 rfl)]))) hS.ext
  ·
    simp only [Bool.and_eq_true, Bool.or_eq_true, Bool.and_eq_false_iff, Bool.or_eq_false_iff, decide_eq_true_eq, decide_eq_false_iff_not, Bool.not_eq_true, Bool.not_eq_false, Bool.not_not, Bool.not_eq_eq_eq_not, Bool.not_true, Bool.not_false, Bool.false_eq_true, Bool.true_eq_false, ne_eq, Decidable.not_not, not_false_eq_true, not_true_eq_false] at c10
    refine skip ?_
    show Code.wp _ _ _ _ _
    refine seq ?_
    refine seq ?_
    refine region ?_
    refine sv (yAsg rfl) ?_
    refine nil ?_
    show Code.wp _ _ _ _ _
    refine block ?_
    refine loop (fun f w zz => ∃ (k : Nat), f 0 = .slice aa la.length ca ∧ f 1 = .slice ab lb.length cb ∧ f 5 = .int .i64 (k : Int) ∧ StX [] w0 w [] ∧ (k ≤ la.length) ∧ (∀ i, i < k → la[i]? = lb[i]?) ∧ zz = la.length - k) _ ⟨_, rfl, 0, rfl, rfl, rfl, hS, (Nat.zero_le _), (fun i hi => absurd hi (Nat.not_lt_zero i)), rfl⟩ ?_
    clear hS
    rintro f w _ ⟨k, h0, h1, h5, hS, hk, hI, rfl⟩
    refine seq ?_
    refine seq ?_
    refine region ?_
    refine sv (yMove h5) ?_
    refine sv (yMove h0) ?_
    refine sv (yLen rfl Tryz.underlying62) ?_
    refine sv (yLss rfl rfl) ?_
    refine nil ?_
    show Code.wp _ _ _ _ _
    refine cond rfl (fun c14 => ?_) (fun c14 => ?_)
    ·
      simp only [Bool.and_eq_true, Bool.or_eq_true, Bool.and_eq_false_iff, Bool.or_eq_false_iff, decide_eq_true_eq, decide_eq_false_iff_not, Bool.not_eq_true, Bool.not_eq_false, Bool.not_not, Bool.not_eq_eq_eq_not, Bool.not_true, Bool.not_false, Bool.false_eq_true, Bool.true_eq_false, ne_eq, Decidable.not_not, not_false_eq_true, not_true_eq_false] at c14
      obtain ⟨x, hx, hd⟩ := drop_of (l := la) (k := k) (by omega)
      obtain ⟨b, o, cs, ha, hlen, hcs, hR⟩ := hela (k) (by omega)
      obtain rfl : x = la[k] := (List.getElem?_eq_some_iff.1 hx).2.symm
      generalize la[k] = x at hx hd hR
      obtain ⟨rfl, _⟩ := hR
      obtain ⟨y, hxq, hdq⟩ := drop_of (l := lb) (k := k) (by omega)
      obtain ⟨bq, oq, csq, haq, hlenq, hcsq, hRq⟩ := helb (k) (by omega)
      obtain rfl : y = lb[k] := (List.getElem?_eq_some_iff.1 hxq).2.symm
      generalize lb[k] = y at hxq hdq hRq
      obtain ⟨rfl, _⟩ := hRq
      refine skip ?_
      show Code.wp _ _ _ _ _
      refine seq ?_
      refine block ?_
      refine seq ?_
      refine region_draw mixed (by kernel_rfl) hS ?_
      refine qv (fun w hS => (yMove h0)) ?_
      refine qv (fun w hS => (yMove h5)) ?_
      refine qv (fun w hS => (yIxa rfl ha rfl Tryz.runUnderlying62 Tryz.sizeOf70 (by omega) (by omega))) ?_
      refine qv (fun w hS => (yLdA rfl Tryz.isAgg70 Tryz.sizeOf70 (hcs.ext hS.ext) rfl)) ?_
      refine qv (fun w hS => (yMove h1)) ?_
      refine qv (fun w hS => (yMove h5)) ?_
      refine qv (fun w hS => (yIxa rfl haq rfl Tryz.runUnderlying62 Tryz.sizeOf70 (by omega) (by omega))) ?_
      refine qv (fun w hS => (yLdA rfl Tryz.isAgg70 Tryz.sizeOf70 (hcsq.ext hS.ext) rfl)) ?_
      refine qv (fun w hS => (neS70 rfl rfl)) ?_
      clear hS; refine qnil (fun w hS => ?_)
      show Code.wp _ _ _ _ _
      refine cond rfl (fun c25 => ?_) (fun c25 => ?_)
      ·
        have hne : x ≠ y := fun h => by subst h; simp [] at c25
        refine seq ?_
        refine region ?_
        refine sv (yAsg rfl) ?_
        refine nil ?_
        show Code.wp _ _ _ _ _
        refine wp_ret (blockR (thenR (thenR (blockR (thenR ?_)))))
        exact retV (res1 rfl (eqB (by rw [decide_eq_false (ne_of_get hx hxq hne)]))) hS.ext
      ·
        have hxy : x = y := by cases x; cases y; simpa [and_assoc] using c25
        refine skip ?_
        show Code.wp _ _ _ _ _
        refine region ?_
        refine sv (yMove h5) ?_
        refine sv (yAdd rfl rfl ⟨by omega, by omega⟩) ?_
        refine sv (yAsg rfl) ?_
        refine nil ?_
        exact ⟨_, _, rfl, ⟨k + 1, h0, h1, rfl, hS, (by omega), (snoc hI (by rw [hx, hxq, hxy])), rfl⟩, by omega⟩
    ·
      simp only [Bool.and_eq_true, Bool.or_eq_true, Bool.and_eq_false_iff, Bool.or_eq_false_iff, decide_eq_true_eq, decide_eq_false_iff_not, Bool.not_eq_true, Bool.not_eq_false, Bool.not_not, Bool.not_eq_eq_eq_not, Bool.not_true, Bool.not_false, Bool.false_eq_true, Bool.true_eq_false, ne_eq, Decidable.not_not, not_false_eq_true, not_true_eq_false] at c14
      refine exit ?_
      show Code.wp _ _ _ _ _
      refine seq ?_
      refine region ?_
      refine sv (yAsg rfl) ?_
      refine nil ?_
      show Code.wp _ _ _ _ _
      refine wp_ret ?_
      exact retV (res1 rfl (eqB (by rw [decide_eq_true (eq_of_get (by omega) (fun i hi => hI i (by omega)))]))) hS.ext
end Go.Proofs.YtmoilbakmlekbaaGreatDoor

/- part Aw18 -/
namespace Go.Proofs.YtmoilbakmlekbaaGreatDoor
open Go Bx
set_option maxHeartbeats 4000000 in
/-- barrage/barragelaw11.Awake -/
theorem c_Awake {w0 : World} (hg : Glb w0) : CV Tryz.prog 20 #[] w0 (.bool true) := by
  refine enter Tryz.func20 rfl Tryz.ntmps20 rfl ?_
  have hS := St.start w0
  refine seq ?_
  refine region ?_
  refine sv (yAsg rfl) ?_
  refine nil ?_
  show Code.wp _ _ _ _ _
  refine seq ?_
  refine region ?_
  refine scall Tryz.call42 .nil c_Task ?_
  rintro _ w ⟨hv1, nv1, fv1, rfl, hT1, hE⟩; replace hS := hS.step hE; clear hE
  refine scall Tryz.call18 (.cons rfl (.cons rfl .nil)) (c_Plan (hg.ext hS.ext) hT1) ?_
  rw [ex_plan]
  rintro _ w ⟨lv, rfl, hM⟩; replace hS := hS.call1 hM; clear hM
  replace hS : StX [] w0 w [rowI lv 38 3 3 ([exS1, exS2, exS3].flatMap slotC)] := hS
  obtain ⟨al, cl, rfl⟩ := row_shape (hS.row lv)
  obtain ⟨gl, rfl, -⟩ := row_get (hS.row (.slice al 3 cl)) (by decide)
  refine sv (yMove rfl) ?_
  refine sv (yExt rfl rfl) ?_
  refine sv (yExt rfl rfl) ?_
  refine sv (yAsg rfl) ?_
  refine sv (yAsg rfl) ?_
  refine nil ?_
  show Code.wp _ _ _ _ _
  refine seq ?_
  refine region ?_
  refine scall Tryz.call42 .nil c_Task ?_
  rintro _ w ⟨hv2, nv2, fv2, rfl, hT2, hE⟩; replace hS := hS.step hE; clear hE
  refine scall Tryz.call33 (.cons rfl (.cons rfl (.cons rfl .nil))) (c_Next (hg.ext hS.ext) hT2 (log := []) Sl.nil) ?_
  rw [ex_next]
  rintro _ w ⟨mv, rfl, hM⟩; replace hS := hS.call1 hM; clear hM
  replace hS : StX [] w0 w [rowI mv 70 5 exL.length (exL.flatMap msgC), rowI (.slice (some ⟨gl, 0, none⟩) 3 cl) 38 3 3 ([exS1, exS2, exS3].flatMap slotC)] := hS
  refine sv (yMove rfl) ?_
  refine sv (yExt rfl rfl) ?_
  refine sv (yExt rfl rfl) ?_
  refine sv (yAsg rfl) ?_
  refine sv (yAsg rfl) ?_
  refine nil ?_
  show Code.wp _ _ _ _ _
  refine seq ?_
  refine region ?_
  refine scall Tryz.call42 .nil c_Task ?_
  rintro _ w ⟨hv3, nv3, fv3, rfl, hT3, hE⟩; replace hS := hS.step hE; clear hE
  refine scall Tryz.call25 (.cons rfl (.cons rfl (.cons rfl .nil))) (c_Stage (hg.ext hS.ext) hT3 (i := 3) (now := 0)) ?_
  rw [ex_stage]
  rintro _ w ⟨rfl, hE⟩; replace hS := hS.step hE; clear hE
  refine sv (yMove rfl) ?_
  refine sv (yExt rfl rfl) ?_
  refine sv (yExt rfl rfl) ?_
  refine sv (yAsg rfl) ?_
  refine sv (yAsg rfl) ?_
  refine nil ?_
  show Code.wp _ _ _ _ _
  refine seq ?_
  refine region ?_
  refine sv (yMove rfl) ?_
  refine sv (yEql rfl rfl) ?_
  refine sv (yMove rfl) ?_
  refine ungo rfl rfl rfl ?_
  refine sv (yMove rfl) ?_
  refine ungo rfl rfl rfl ?_
  refine sv (yEql rfl rfl) ?_
  refine sv (yAnd rfl (fun hB => rfl) rfl) ?_
  refine sv (yMove rfl) ?_
  refine ungo rfl rfl rfl ?_
  refine sv (yMove rfl) ?_
  refine ungo rfl rfl rfl ?_
  refine sv (yEql rfl rfl) ?_
  refine sv (yAnd rfl (fun hB => rfl) rfl) ?_
  refine sv (yMove rfl) ?_
  refine ungo rfl rfl rfl ?_
  refine sv (yMove rfl) ?_
  refine ungo rfl rfl rfl ?_
  refine sv (yLen rfl Tryz.underlying27) ?_
  refine ungo rfl rfl rfl ?_
  refine sv (yEql rfl rfl) ?_
  refine sv (yAnd rfl (fun hB => rfl) rfl) ?_
  refine sv (yMove rfl) ?_
  refine ungo rfl rfl rfl ?_
  refine sv (yMove rfl) ?_
  refine ungo rfl rfl rfl ?_
  refine sv (yIx0 (m := 1) rfl rfl Tryz.runUnderlying27 Tryz.sizeOf38 (by decide)) ?_
  refine ungo rfl rfl rfl ?_
  refine sv (yLdA rfl Tryz.isAgg38 Tryz.sizeOf38 (flat_cells0 slotC_len (row_at (hS.row (.slice (some ⟨gl, 0, none⟩) 3 cl)) rfl (by decide)) (x := exS2) rfl) rfl) ?_
  refine ungo rfl rfl rfl ?_
  refine sv (yBuild Tryz.zeroValue38 rfl pl38 (.cons rfl rfl (.cons rfl rfl .nil)) rfl) ?_
  refine ungo rfl rfl rfl ?_
  refine sv (eqS38 rfl rfl) ?_
  refine sv (yAnd rfl (fun hB => rfl) rfl) ?_
  refine sv (yMove rfl) ?_
  refine ungo rfl rfl rfl ?_
  refine sv (yMove rfl) ?_
  refine ungo rfl rfl rfl ?_
  refine scall Tryz.call43 .nil c_Log ?_
  rintro v46 w ⟨hL, hE⟩; replace hS := hS.step hE; clear hE
  refine ungo rfl rfl rfl ?_
  refine scall Tryz.call35 (.cons rfl (.cons rfl .nil)) (c_Msgs (sl_msgs (hS.row mv) rfl (by decide)) hL) ?_
  rintro _ w ⟨rfl, hE⟩; replace hS := hS.step hE; clear hE
  refine sv (yAnd rfl (fun hB => rfl) rfl) ?_
  refine sv (yAsg rfl) ?_
  refine nil ?_
  show Code.wp _ _ _ _ _
  refine wp_ret ?_
  exact retV (res1 rfl rfl) hS.ext
end Go.Proofs.YtmoilbakmlekbaaGreatDoor

/- part A18 -/
namespace Bx
open Go Go.RowKit
/-- The messages, the last one first, with their places. -/
def bk (log : List Msg) : Nat → List (Int × Msg)
  | 0 => []
  | k + 1 => ((k : Int), log.getD k ⟨0, 0, 0, 0, 0⟩) :: bk log k
end Bx

/- part A20 -/
namespace Bx
open Go Go.RowKit
theorem ofE_of {t : Task} {i : Int} (h : (checkA t).2.2 = 0) (hi : 0 ≤ i ∧ i < t.towns.length) : ofE t i = 0 := by
  unfold ofE
  rw [if_neg (fun h' => h' h), if_neg (by rw [outB_false.2 (by omega)]; decide)]
theorem arrR_of {t : Task} {i : Int} (h : (checkA t).2.2 = 0) (hi : 0 ≤ i ∧ i < t.towns.length) : arrR t i = (arr t i, 0) := by
  unfold arrR
  rw [if_neg (fun h' => h' (ofE_of h hi))]
end Bx

/- part A21 -/
namespace Bx
open Go Go.RowKit
section
variable {P : Program} {ρ : Operand → Value} {w : World} {ty : TypeId}
end
theorem chL_nod (t : Task) : (chL t).Nodup := by
  unfold chL
  exact List.pairwise_map.2 ((List.nodup_range (n := t.chans.length)).imp fun h e => h (Int.ofNat.inj e))
theorem wetL_nod (t : Task) : (wetL t).Nodup := (wetL_asc t).imp fun h => by omega
theorem chL_mem {t : Task} (ht : TaskOk t) : ∀ i, ∀ c ∈ (twn t i).chans, c ∈ chL t := fun i c hc => by
  have h := chan_mem ht hc
  exact List.mem_map.2 ⟨c.toNat, List.mem_range.2 (by omega), by show ((c.toNat : Nat) : Int) = c; omega⟩
end Bx

/- part A22 -/
namespace Bx
open Go Go.RowKit
def fld (x : Town) (l : List Int) : Int := l.getD x.polder.toNat 0
structure InTime (t : Task) (now : Int) (L : List Slot) : Prop where
  towns : L.map (·.town) = wetL t
  fits : ∀ s ∈ L, s.channel ∈ (twn t s.town).chans ∧ now ≤ s.sent ∧ s.sent ≤ latestF t s.town s.channel
  room : ∀ s ∈ L, (usedN L s.pl : Int) ≤ (chn t s.channel).room
end Bx

/- part A23 -/
namespace Bx
open Go Go.RowKit
theorem plan_now {t : Task} {now : Int} (h : (planR t now).2 = 0) : 0 ≤ now ∧ now ≤ 200000 := by
  unfold planR at h
  split at h
  next h1 => exact absurd h h1
  next h1 => exact (atE_ok (Decidable.not_not.1 h1)).2
end Bx

/- part LibB1 -/
namespace Bx
open Go Go.RowKit
def fromA (a : Option Addr) (cap i k : Nat) : Option Addr := if cap = i then a else a.map (·.add (i * k))
section
variable {P : Program} {ρ : Operand → Value} {w : World} {ty : TypeId}
theorem yFromA {T E : TypeId} {x xi : Operand} {a : Option Addr} {cap i k m : Nat} {kd : IntKind} (hx : ρ x = .slice a m cap) (hi : ρ xi = .int kd (i : Int)) (hu : P.underlying T = some (.slice E)) (hs : ∀ w, (Go.sizeOf E).run P w = .ok k w) (hm : i ≤ m) :
    Y P ρ (.slice T x (some xi) none none) ty w (.slice (fromA a cap i k) (m - i) (cap - i)) w := by
  have hb : (0 : Int) ≤ (i : Int) ∧ (i : Int) ≤ (m : Int) := ⟨by omega, by omega⟩
  simp only [Y, xop, execOp, Option.map_some, Option.map_none, hx, hi, Instr.sliceAt, run_underlying hu, Sem.run_bind, Result.andThen_ok, Instr.slice, Instr.sliceBounds, Instr.sliceBound, asIntOf, Sem.run_pure, Sem.run_ite, hb, and_self, if_true, hs, Int.toNat_natCast, fromA]
end
theorem Sl.drop {α : Type} {w : World} {k : Nat} {R : World → List Value → α → Prop} {a : Option Addr} {n cap i : Nat} {l : List α} (h : Sl w k R (.slice a n cap) l) (hi : i ≤ n) : Sl w k R (.slice (fromA a cap i k) (n - i) (cap - i)) (l.drop i) := by
  obtain ⟨a', cap', hv, h1, h2, h3⟩ := h
  simp only [Value.slice.injEq] at hv
  obtain ⟨rfl, rfl, rfl⟩ := hv
  refine ⟨_, _, by rw [List.length_drop], by rw [List.length_drop]; omega, by omega, fun j hj => ?_⟩
  rw [List.length_drop] at hj
  obtain ⟨b, o, cs, ha, hlc, hc, hr⟩ := h3 (i + j) (by omega)
  refine ⟨b, o + i * k, cs, ?_, hlc, ?_, by rw [List.getElem_drop]; exact hr⟩
  · unfold fromA
    rw [if_neg (by omega), ha, Option.map_some, addr_add]
  · rw [show o + i * k + j * k = o + (i + j) * k by rw [Nat.add_mul]; omega]; exact hc
theorem Sl.fit {α : Type} {w : World} {k : Nat} {R : World → List Value → α → Prop} {a : Option Addr} {n cap : Nat} {l : List α} (h : Sl w k R (.slice a n cap) l) : n ≤ cap := by
  obtain ⟨a', cap', hv, h1, -⟩ := h
  simp only [Value.slice.injEq] at hv
  omega
end Bx

/- part A25 -/
namespace Bx
open Go Go.RowKit
theorem arrS_skip {x : Town} {s : Span × Int} {l : List Int} (h : fld x l < 0) : arrStep x s l = s := if_pos h
theorem arrS_zero {x : Town} {s : Span × Int} {l : List Int} (h : ¬ fld x l < 0) (h0 : s.2 = 0) : arrStep x s l = (⟨min (fld x l + x.travel) (fld x l + x.travel), max (fld x l + x.travel) (fld x l + x.travel)⟩, s.2 + 1) := by
  unfold fld at *
  unfold arrStep
  rw [if_neg h, if_pos h0, h0, Int.min_self, Int.max_self]; rfl
theorem arrS_more {x : Town} {s : Span × Int} {l : List Int} (h : ¬ fld x l < 0) (h0 : ¬ s.2 = 0) : arrStep x s l = (⟨min s.1.lo (fld x l + x.travel), max s.1.hi (fld x l + x.travel)⟩, s.2 + 1) := by
  unfold fld at *
  unfold arrStep
  rw [if_neg h, if_neg h0]
end Bx

/- part A26 -/
namespace Bx
open Go Go.RowKit
/-- What is better: which history is left out, how much more room, how much less delay, how much earlier. -/
structure Bett where
  hist : Int
  room : Int
  delay : Int
  earl : Int
def moreF (fs : List (List Int)) (h : Int) : List (List Int) := if 1 < fs.length then fs.take (h % fs.length).toNat ++ fs.drop ((h % fs.length).toNat + 1) else fs
def moreC (b : Bett) (c : Chan) : Chan := ⟨c.name, max 0 (c.delay - b.delay), min 20 (c.room + b.room)⟩
def moreA (t : Task) (h : Int) : Task := ⟨t.polders, t.chans, t.towns, moreF t.floods h⟩
def moreT (t : Task) (b : Bett) : Task := ⟨t.polders, t.chans.map (moreC b), t.towns, moreF t.floods b.hist⟩
theorem more_k {fs : List (List Int)} (h : Int) (h1 : 1 < fs.length) : (h % fs.length).toNat < fs.length := by
  have h2 := Int.emod_nonneg h (b := (fs.length : Int)) (by omega)
  have h3 := Int.emod_lt_of_pos h (b := (fs.length : Int)) (by omega)
  omega
theorem more_len {fs : List (List Int)} (h : Int) (h1 : 1 ≤ fs.length) : 1 ≤ (moreF fs h).length ∧ (moreF fs h).length ≤ fs.length := by
  unfold moreF
  split
  next h2 =>
    have := more_k h h2
    simp only [List.length_append, List.length_take, List.length_drop]
    omega
  next => omega
theorem more_sub (fs : List (List Int)) (h : Int) : ∀ l ∈ moreF fs h, l ∈ fs := by
  unfold moreF
  split
  · intro l hl
    rcases List.mem_append.1 hl with hl | hl
    · exact List.mem_of_mem_take hl
    · exact List.mem_of_mem_drop hl
  · exact fun _ h => h
theorem namedR_nil {α : Type} {nm : α → ByteArray} {rest : α → Int} : ∀ (l : List α) (seen : List ByteArray) (i : Int), (∀ x ∈ l, isName (nm x) = true ∧ rest x = 0 ∧ nm x ∉ seen) → (l.map nm).Nodup → (namedR nm rest l seen i).2 = 0
  | [], _, _, _, _ => rfl
  | x :: l, seen, i, h, hn => by
    have hx := h x (List.mem_cons_self ..)
    rw [List.map_cons, List.nodup_cons] at hn
    rw [namedR, if_neg (by rw [hx.1]; decide), if_neg (by rw [memB_iff]; exact hx.2.2), if_neg (fun k => k hx.2.1)]
    refine namedR_nil l _ _ (fun y hy => ⟨(h y (List.mem_cons_of_mem _ hy)).1, (h y (List.mem_cons_of_mem _ hy)).2.1, fun hm => ?_⟩) hn.2
    rcases List.mem_append.1 hm with hm | hm
    · exact (h y (List.mem_cons_of_mem _ hy)).2.2 hm
    · rw [List.mem_singleton] at hm
      exact hn.1 (hm ▸ List.mem_map_of_mem hy)
theorem firstR_nil {α : Type} {f : α → Int} : ∀ (l : List α) (i : Int), (∀ x ∈ l, f x = 0) → (firstR f l i).2 = 0
  | [], _, _ => rfl
  | x :: l, i, h => by rw [firstR, if_neg (fun k => k (h x (List.mem_cons_self ..)))]; exact firstR_nil l _ fun y hy => h y (List.mem_cons_of_mem _ hy)
structure ChkOk (t : Task) : Prop where
  pol : outB t.polders 0 6 = false
  nch : ¬ (4 : Int) < t.chans.length
  chs : ∀ c ∈ t.chans, isName c.name = true ∧ chanE c = 0
  chn : (t.chans.map (·.name)).Nodup
  ntw : ¬ (8 : Int) < t.towns.length
  tws : ∀ x ∈ t.towns, isName x.name = true ∧ townE t.polders t.chans.length x = 0
  twn : (t.towns.map (·.name)).Nodup
  nfl : outB t.floods.length 1 8 = false
  fls : ∀ l ∈ t.floods, floodE t.polders l = 0
theorem chk_iff {t : Task} : (checkA t).2.2 = 0 ↔ ChkOk t := by
  constructor
  · intro h
    unfold checkA at h
    split at h
    next => cases h
    next h1 =>
      split at h
      next => cases h
      next h2 =>
        split at h
        next h3 => exact absurd h h3
        next h3 =>
          split at h
          next => cases h
          next h4 =>
            split at h
            next h5 => exact absurd h h5
            next h5 =>
              split at h
              next => cases h
              next h6 =>
                split at h
                next h7 => exact absurd h h7
                next h7 =>
                  obtain ⟨a1, a2⟩ := namedR_ok _ _ _ (Decidable.not_not.1 h3)
                  obtain ⟨b1, b2⟩ := namedR_ok _ _ _ (Decidable.not_not.1 h5)
                  exact ⟨by simpa using h1, h2, fun c hc => ⟨(a1 c hc).1, (a1 c hc).2.1⟩, a2, h4, fun c hc => ⟨(b1 c hc).1, (b1 c hc).2.1⟩, b2, by simpa using h6, firstR_ok _ _ (Decidable.not_not.1 h7)⟩
  · intro h
    unfold checkA
    rw [if_neg (by rw [h.pol]; decide), if_neg h.nch, if_neg (fun k => k (namedR_nil _ _ _ (fun c hc => ⟨(h.chs c hc).1, (h.chs c hc).2, by simp⟩) h.chn)), if_neg h.ntw,
      if_neg (fun k => k (namedR_nil _ _ _ (fun c hc => ⟨(h.tws c hc).1, (h.tws c hc).2, by simp⟩) h.twn)), if_neg (by rw [h.nfl]; decide), if_neg (fun k => k (firstR_nil _ _ h.fls))]
theorem more_fl {t : Task} (h : ChkOk t) (b : Int) : outB ((moreF t.floods b).length : Int) 1 8 = false ∧ ∀ l ∈ moreF t.floods b, floodE t.polders l = 0 := by
  have h1 := outB_false.1 h.nfl
  have h2 := more_len (fs := t.floods) b (by omega)
  exact ⟨outB_false.2 (by omega), fun l hl => h.fls l (more_sub _ _ l hl)⟩
theorem moreA_chk {t : Task} (h : ChkOk t) (b : Int) : ChkOk (moreA t b) := ⟨h.pol, h.nch, h.chs, h.chn, h.ntw, h.tws, h.twn, (more_fl h b).1, (more_fl h b).2⟩
theorem moreC_ok {b : Bett} (hr : 0 ≤ b.room) (hd : 0 ≤ b.delay) {c : Chan} (h : chanE c = 0) : chanE (moreC b c) = 0 := by
  unfold chanE at h ⊢
  split at h
  next => cases h
  next h1 =>
    simp only [Bool.or_eq_true, not_or, Bool.not_eq_true, outB_false] at h1
    rw [if_neg]
    simp only [Bool.or_eq_true, not_or, Bool.not_eq_true, outB_false, moreC]
    omega
theorem moreT_chk {t : Task} (h : ChkOk t) {b : Bett} (hr : 0 ≤ b.room) (hd : 0 ≤ b.delay) : ChkOk (moreT t b) where
  pol := h.pol
  nch := by show ¬ (4 : Int) < ((t.chans.map (moreC b)).length : Nat); rw [List.length_map]; exact h.nch
  chs := fun c hc => by
    obtain ⟨x, hx, rfl⟩ := List.mem_map.1 hc
    exact ⟨(h.chs x hx).1, moreC_ok hr hd (h.chs x hx).2⟩
  chn := by
    have e : ((moreT t b).chans.map (·.name)) = t.chans.map (·.name) := by
      show ((t.chans.map (moreC b)).map (·.name)) = _
      rw [List.map_map]; rfl
    rw [e]; exact h.chn
  ntw := h.ntw
  tws := fun x hx => by
    refine ⟨(h.tws x hx).1, ?_⟩
    show townE t.polders ((t.chans.map (moreC b)).length : Nat) x = 0
    rw [List.length_map]; exact (h.tws x hx).2
  twn := h.twn
  nfl := (more_fl h b.hist).1
  fls := (more_fl h b.hist).2
theorem arr_lo (x : Town) (fs : List (List Int)) : let s := fs.foldl (arrStep x) (⟨0, 0⟩, 0); 0 ≤ s.2 ∧ (0 < s.2 ↔ ∃ l ∈ fs, 0 ≤ fld x l) ∧ (0 < s.2 → (∃ l ∈ fs, 0 ≤ fld x l ∧ s.1.lo = fld x l + x.travel) ∧ ∀ l ∈ fs, 0 ≤ fld x l → s.1.lo ≤ fld x l + x.travel) := by
  induction fs using snocR with
  | h0 => simp
  | h1 fs l ih =>
    simp only [arr_prefix] at ih ⊢
    generalize fs.foldl (arrStep x) (⟨0, 0⟩, 0) = s at ih ⊢
    obtain ⟨i0, i1, i2⟩ := ih
    by_cases hn : fld x l < 0
    · rw [arrS_skip hn]
      refine ⟨i0, i1.trans ⟨fun ⟨m, hm, h⟩ => ⟨m, by simp [hm], h⟩, fun ⟨m, hm, h⟩ => ?_⟩, fun h => ⟨?_, fun m hm h' => ?_⟩⟩
      · rcases List.mem_append.1 hm with k | k
        · exact ⟨m, k, h⟩
        · rw [List.mem_singleton.1 k] at h; omega
      · obtain ⟨⟨m, hm, k⟩, -⟩ := i2 h
        exact ⟨m, by simp [hm], k⟩
      · rcases List.mem_append.1 hm with k | k
        · exact (i2 h).2 m k h'
        · rw [List.mem_singleton.1 k] at h'; omega
    · by_cases h0 : s.2 = 0
      · rw [arrS_zero hn h0]
        refine ⟨by simp only; omega, ⟨fun _ => ⟨l, by simp, by omega⟩, fun _ => by simp only; omega⟩, fun _ => ⟨⟨l, by simp, by omega, by simp only; omega⟩, fun m hm h' => ?_⟩⟩
        rcases List.mem_append.1 hm with k | k
        · exact absurd (i1.2 ⟨m, k, h'⟩) (by omega)
        · rw [List.mem_singleton.1 k]; simp only; omega
      · rw [arrS_more hn h0]
        obtain ⟨⟨m, hm, k1, k2⟩, k3⟩ := i2 (by omega)
        refine ⟨by simp only; omega, ⟨fun _ => ⟨l, by simp, by omega⟩, fun _ => by simp only; omega⟩, fun _ => ⟨?_, fun m hm h' => ?_⟩⟩
        · by_cases hle : s.1.lo ≤ fld x l + x.travel
          · exact ⟨m, by simp [hm], k1, by simp only; omega⟩
          · exact ⟨l, by simp, by omega, by simp only; omega⟩
        · rcases List.mem_append.1 hm with k | k
          · have := k3 m k h'; simp only; omega
          · rw [List.mem_singleton.1 k]; simp only; omega
theorem arr_less {t u : Task} (ht : u.towns = t.towns) (hs : ∀ l ∈ u.floods, l ∈ t.floods) {i : Int} (h : 0 < (arr u i).2) : 0 < (arr t i).2 ∧ (arr t i).1.lo ≤ (arr u i).1.lo := by
  have e : twn u i = twn t i := by unfold twn; rw [ht]
  unfold arr arrF at *
  rw [e] at h ⊢
  obtain ⟨-, a1, a2⟩ := arr_lo (twn t i) u.floods
  obtain ⟨-, b1, b2⟩ := arr_lo (twn t i) t.floods
  obtain ⟨⟨l, hl, k1, k2⟩, -⟩ := a2 h
  have hb := b1.2 ⟨l, hs l hl, k1⟩
  refine ⟨hb, ?_⟩
  have := (b2 hb).2 l (hs l hl) k1
  omega
theorem chn_more (t : Task) (b : Bett) {c : Int} (h : 0 ≤ c ∧ c < t.chans.length) : chn (moreT t b) c = moreC b (chn t c) := by
  have h1 := chn_i h
  have h2 : (moreT t b).chans[c.toNat]? = some (moreC b (chn t c)) := by
    show (t.chans.map (moreC b))[c.toNat]? = _
    rw [List.getElem?_map, h1]; rfl
  have h3 := chn_at h2
  rwa [Int.toNat_of_nonneg h.1] at h3
theorem planR_ok {t : Task} {now : Int} (h : (planR t now).2 = 0) : (checkA t).2.2 = 0 ∧ (0 ≤ now ∧ now ≤ 200000) ∧ ∃ M, Mat (plT t now) M := by
  have hn := plan_now h
  unfold planR at h
  split at h
  next h1 => exact absurd h h1
  next h1 =>
    have hck : (checkA t).2.2 = 0 := by
      by_cases e : (checkA t).2.2 = 0
      · exact e
      · exact absurd (by unfold atE; rw [if_pos e]; exact e) h1
    have hok := task_ok hck
    refine ⟨hck, hn, ?_⟩
    cases hp : planA t now with
    | none => rw [hp] at h; cases h
    | some L =>
      obtain ⟨M, h1, -⟩ := plan_some (wetL_nod t) (chL_mem hok) (fuel_UU hok now) hp
      exact ⟨M, h1⟩
theorem planR_mat {t : Task} {now : Int} (hck : (checkA t).2.2 = 0) (hn : 0 ≤ now ∧ now ≤ 200000) {M : Int → Seat} (hM : Mat (plT t now) M) : (planR t now).2 = 0 := by
  have hok := task_ok hck
  unfold planR
  have h1 : atE t now = 0 := by unfold atE; rw [if_neg (fun h => h hck), if_neg (by rw [outB_false.2 hn]; decide)]
  rw [if_neg (fun h => h h1)]
  cases hp : planA t now with
  | some L => rfl
  | none =>
    exfalso
    exact (plan_none (chL_nod t) (wetL_nod t) (chL_mem hok) (fuel_UU hok now) hp).no (wetL_nod t) hM
theorem more_mat {t : Task} (hok : TaskOk t) {b : Bett} (hr : 0 ≤ b.room) (hd : 0 ≤ b.delay) {now nw : Int} (hn : nw ≤ now) {M : Int → Seat} (hM : Mat (plT t now) M) : Mat (plT (moreT t b) nw) M := by
  have hsub : ∀ i ∈ wetL (moreT t b), i ∈ wetL t ∧ (arr t i).1.lo ≤ (arr (moreT t b) i).1.lo := fun i hi => by
    obtain ⟨h1, h2⟩ := mem_wetL.1 hi
    have h3 := arr_less (t := t) (u := moreT t b) rfl (more_sub t.floods b.hist) h2
    exact ⟨mem_wetL.2 ⟨h1, h3.1⟩, h3.2⟩
  refine ⟨fun a ha c hc e => hM.inj a (hsub a ha).1 c (hsub c hc).1 e, fun j hj => ?_⟩
  obtain ⟨hj1, hj2⟩ := hsub j hj
  obtain ⟨f1, f2, f3, f4, f5⟩ := hM.fit j hj1
  have hc := chan_mem hok (i := j) f1
  have hco := chan_ok hok hc
  have e := chn_more t b hc
  have f3' : (M j).2.1 ≤ latestF t j (M j).1 := f3
  have f5' : (M j).2.2 < (chn t (M j).1).room := f5
  refine ⟨f1, by show nw ≤ (M j).2.1; have : now ≤ (M j).2.1 := f2; omega, ?_, f4, ?_⟩
  · show (M j).2.1 ≤ latestF (moreT t b) j (M j).1
    unfold latestF actF at f3' ⊢
    rw [e]
    have e2 : twn (moreT t b) j = twn t j := rfl
    rw [e2]
    show (M j).2.1 ≤ min 200000 ((arr (moreT t b) j).1.lo - (twn t j).lead - max 0 ((chn t (M j).1).delay - b.delay))
    omega
  · show (M j).2.2 < (chn (moreT t b) (M j).1).room
    rw [e]
    show _ < min 20 ((chn t (M j).1).room + b.room)
    omega
theorem more_law {t : Task} {now : Int} {b : Bett} (hr : 0 ≤ b.room) (hd : 0 ≤ b.delay) (he : 0 ≤ b.earl) (h : (planR t now).2 = 0) : (planR (moreT t b) (max 0 (now - b.earl))).2 = 0 := by
  obtain ⟨h1, h2, M, h3⟩ := planR_ok h
  exact planR_mat (chk_iff.2 (moreT_chk (chk_iff.1 h1) hr hd)) (by omega) (more_mat (task_ok h1) hr hd (by omega) h3)
end Bx

/- part A27 -/
namespace Bx
open Go Go.RowKit
/-- A log that is right, with nothing sent behind a tick. -/
structure LogOk (t : Task) (all : List Msg) (T : Int) : Prop where
  ok : wrongL t all 0 0 = 0
  sent : ∀ x ∈ all, x.sent ≤ T
theorem LogOk.msgs {t : Task} {all : List Msg} {T : Int} (h : LogOk t all T) : ∀ x ∈ all, MsgOk t x := (wrongL_ok all 0 0 (Int.le_refl _) h.ok).1
theorem sum_mono {g g' : Int → Int} : ∀ {l : List Int}, (∀ j ∈ l, g' j ≤ g j) → (l.map g').sum ≤ (l.map g).sum
  | [], _ => Int.le_refl _
  | x :: l, h => by
    have := sum_mono fun j hj => h j (List.mem_cons_of_mem x hj)
    have := h x (List.mem_cons_self ..)
    simp only [List.map_cons, List.sum_cons]; omega
def pot (t : Task) (all : List Msg) (T i : Int) : Int := (if lastF all i = stageF t i T then 0 else 1) + (if stageF t i T = 1 then 1 else 0)
def potS (t : Task) (all : List Msg) (T : Int) : Int := ((idxL t).map (pot t all T)).sum
theorem pot_bd (t : Task) (all : List Msg) (T i : Int) : 0 ≤ pot t all T i ∧ pot t all T i ≤ 2 := by unfold pot; split <;> split <;> omega
theorem potS_bd (t : Task) (all : List Msg) (T : Int) : 0 ≤ potS t all T ∧ potS t all T ≤ 2 * t.towns.length := by
  have h1 := sum_mono (l := idxL t) (g' := fun _ => 0) (g := pot t all T) fun j _ => (pot_bd t all T j).1
  have h2 := sum_mono (l := idxL t) (g := fun _ => 2) (g' := pot t all T) fun j _ => (pot_bd t all T j).2
  rw [sum_const] at h1 h2
  rw [idxL_len] at h1 h2
  unfold potS
  omega
def restA (t : Task) (log : List Msg) (now : Int) : Nat → List Msg
  | 0 => log
  | i + 1 => restA t log now i ++ nextF t (restA t log now i) (now + i)
structure RestI (t : Task) (log : List Msg) (now : Int) (i : Nat) : Prop where
  ok : wrongL t (restA t log now i) 0 0 = 0
  sent : ∀ x ∈ restA t log now i, x.sent < now + i
  few : ((restA t log now i).length : Int) + potS t (restA t log now i) (now + i) ≤ 116
theorem RestI.wrong {t : Task} {log : List Msg} {now : Int} {i : Nat} (h : RestI t log now i) : wrongF t (restA t log now i) = 0 := by
  have := h.few
  have := (potS_bd t (restA t log now i) (now + i)).1
  unfold wrongF
  rw [if_neg (by omega)]
  exact h.ok
theorem late_no {log : List Msg} {now : Int} (h : ∀ x ∈ log, x.sent ≤ now) (h0 : 0 ≤ now) : lateB log now = false := by
  unfold lateB
  rw [Bool.and_eq_false_iff]
  cases hq : log.getLast? with
  | none => exact .inr (by simpa using h0)
  | some z => exact .inr (by simpa using h z (List.mem_of_getLast? hq))
theorem RestI.next {t : Task} (hck : (checkA t).2.2 = 0) {log : List Msg} {now : Int} (hn : 0 ≤ now ∧ now ≤ 199800) {i : Nat} (hi : i < 40) (h : RestI t log now i) : nextR t (restA t log now i) (now + i) = (nextF t (restA t log now i) (now + i), 0) := by
  have e : nextE t (restA t log now i) (now + i) = 0 := by
    unfold nextE
    rw [if_neg (fun k => k hck), if_neg (fun k => k h.wrong), if_neg]
    rw [outB_false.2 (show 0 ≤ now + (i : Int) ∧ now + (i : Int) ≤ 200000 by omega), late_no (fun x hx => by have := h.sent x hx; omega) (by omega)]
    decide
  unfold nextR
  rw [if_neg (fun k => k e)]
end Bx

/- part A28 -/
namespace Bx
open Go Go.RowKit
theorem LogOk.i64 {t : Task} (ht : TaskOk t) {all : List Msg} {T : Int} (h : LogOk t all T) (hl : all.length ≤ 100000) : ∀ m ∈ all, MsgI m := fun m hm => by
  have h1 := h.msgs m hm
  obtain ⟨k, hk, rfl⟩ := List.getElem_of_mem hm
  have h2 := (wrongL_ok all 0 0 (Int.le_refl _) h.ok).2.1 k _ (List.getElem?_eq_getElem hk)
  have h3 := h1.town
  have h4 := h1.stage
  have h5 := h1.chan
  have h6 := h1.sent
  have := ht.ntw
  have := ht.nch
  refine ⟨⟨by omega, by omega⟩, ⟨by omega, by omega⟩, ⟨by omega, by omega⟩, ⟨by omega, by omega⟩, ⟨by omega, by omega⟩⟩
end Bx

/- part A29 -/
namespace Bx
open Go Go.RowKit
theorem Rows.app {α : Type} {w : World} {k : Nat} {R : World → List Value → α → Prop} : ∀ {c1 c2 : List (List Value)} {l1 l2 : List α}, Bx.Rows w k R c1 l1 → Bx.Rows w k R c2 l2 → Bx.Rows w k R (c1 ++ c2) (l1 ++ l2)
  | [], _, [], _, _, h => h
  | _ :: _, _, _ :: _, _, ⟨h1, h2, h3⟩, h => ⟨h1, h2, Rows.app h3 h⟩
  | [], _, _ :: _, _, h, _ => h.elim
  | _ :: _, _, [], _, h, _ => h.elim
theorem rrow_one {w : World} : ∀ {css : List (List Value)} {l : List (List Int)}, Bx.Rows w 1 RRow css l → css.flatten.all (·.oneCell') = true
  | [], [], _ => rfl
  | c :: css, x :: l, ⟨_, h2, h3⟩ => by
    obtain ⟨v, rfl, a, cap, rfl, -⟩ := h2
    rw [List.flatten_cons, List.all_append, rrow_one h3]; rfl
  | [], _ :: _, h => h.elim
  | _ :: _, [], h => h.elim
theorem more_row {w0 w : World} {E : TypeId} {v : Value} {n : Nat} {c1 c2 : List (List Value)} {l1 l2 : List (List Int)} (h1 : Bx.Rows w0 1 RRow c1 l1) (h2 : Bx.Rows w0 1 RRow c2 l2) (e : Ext w0 w) (hr : w.ownsRow 0 E 1 v n (c1.flatten ++ c2.flatten)) (hn : (l1 ++ l2).length = n) : Sl w 1 RRow v (l1 ++ l2) :=
  sl_of_row (css := c1 ++ c2) (by rw [List.flatten_append]; exact hr) ((Rows.app h1 h2).ext RRow.stays e) hn
/-- What two parts of a slice hold, as it is written out. -/
theorem sl_cut {α : Type} {w : World} {k : Nat} {R : World → List Value → α → Prop} {a : Option Addr} {cap i : Nat} {l : List α} (h : Sl w k R (.slice a l.length cap) l) (hi : i < l.length) :
    ∃ c1 c2, Bx.Rows w k R c1 (l.take i) ∧ Bx.Rows w k R c2 (l.drop (i + 1)) ∧ (0 < i → ∃ b o, a = some ⟨b, o, none⟩ ∧ Cells w b o c1.flatten) ∧ (0 < l.length - (i + 1) → ∃ b o, fromA a cap (i + 1) k = some ⟨b, o, none⟩ ∧ Cells w b o c2.flatten) := by
  have h1 := h.take (i := i) (by omega)
  have h2 := h.drop (i := i + 1) (by omega)
  have e1 : (l.take i).length = i := by rw [List.length_take]; omega
  have e2 : (l.drop (i + 1)).length = l.length - (i + 1) := List.length_drop
  obtain ⟨c1, r1, n1⟩ := sl_news (a := a) (cap := cap) (l := l.take i) (by rw [show Value.slice a (l.take i).length cap = Value.slice a i cap by rw [e1]]; exact h1)
  obtain ⟨c2, r2, n2⟩ := sl_news (a := fromA a cap (i + 1) k) (cap := cap - (i + 1)) (l := l.drop (i + 1)) (by rw [show Value.slice (fromA a cap (i + 1) k) (l.drop (i + 1)).length (cap - (i + 1)) = Value.slice (fromA a cap (i + 1) k) (l.length - (i + 1)) (cap - (i + 1)) by rw [e2]]; exact h2)
  rw [e1] at n1
  rw [e2] at n2
  exact ⟨c1, c2, r1, r2, n1, n2⟩
abbrev ChI (c : Chan) : Prop := c.name.size ≤ 9223372036854775807 ∧ I64 c.delay ∧ I64 c.room
theorem sl_chans {w : World} {e : TypeId} {v : Value} {n : Nat} {l : List Chan} (h : w.ownsRow 0 e 3 v n (l.flatMap chanC)) (hn : l.length = n) (hok : ∀ c ∈ l, ChI c) : Sl w 3 RChan v l := by
  subst hn
  exact row_sl chanC_len h fun m hm => hok m hm
def RBett (_ : World) (cs : List Value) (b : Bett) : Prop := cs = [.int .u8 b.hist, .int .u8 b.room, .int .u8 b.delay, .int .u16 b.earl] ∧ (0 ≤ b.hist ∧ b.hist ≤ 255) ∧ (0 ≤ b.room ∧ b.room ≤ 255) ∧ (0 ≤ b.delay ∧ b.delay ≤ 255) ∧ 0 ≤ b.earl ∧ b.earl ≤ 65535
def RU16 (_ : World) (cs : List Value) (n : Int) : Prop := cs = [.int .u16 n] ∧ 0 ≤ n ∧ n ≤ 65535
theorem rd_u16 {P : Program} {t : TypeId} (ht : P.underlying t = some (.int .u16)) : Rd P t RU16 := by
  intro H enc w base spare held fuel cs x h
  obtain ⟨n, rfl, _, hw⟩ := DataW.trod_int ht h
  obtain ⟨h1, h2⟩ := bounds_u16 hw
  exact ⟨n, rfl, h1, h2⟩
theorem moreF_cut {fs : List (List Int)} {h : Int} {k : Nat} (h1 : 1 < fs.length) (hk : h % fs.length = (k : Int)) : moreF fs h = fs.take k ++ fs.drop (k + 1) := by
  unfold moreF
  rw [if_pos h1, hk]; rfl
theorem moreF_all {fs : List (List Int)} {h : Int} (h1 : ¬ 1 < fs.length) : moreF fs h = fs := if_neg h1
theorem chI_more {t : Task} (ht : ∀ c ∈ t.chans, ChI c) (hok : TaskOk t) {b : Bett} (hr : 0 ≤ b.room ∧ b.room ≤ 255) (hd : 0 ≤ b.delay ∧ b.delay ≤ 255) : ∀ c ∈ t.chans.map (moreC b), ChI c := fun c hc => by
  obtain ⟨x, hx, rfl⟩ := List.mem_map.1 hc
  have h1 := ht x hx
  have h2 := hok.chan x hx
  refine ⟨h1.1, ?_, ?_⟩
  · show I64 (max 0 (x.delay - b.delay)); constructor <;> omega
  · show I64 (min 20 (x.room + b.room)); constructor <;> omega
end Bx

/- part Aw36 -/
namespace Go.Proofs.YtmoilbakmlekbaaGreatDoor
open Go Bx
set_option maxHeartbeats 4000000 in
/-- barrage/barragelaw11.AlarmMore -/
theorem w_AlarmMore {t : Task} {cs : List Value} {now : Int} {b : Bett} {qs : List Value} {w0 : World} (hg : Glb w0) (h : RTask w0 cs t) (_ : I64 now) (h2 : RBett w0 qs b) : CV Tryz.prog 6 #[.agg cs.toArray, .int .i64 now, .agg qs.toArray] w0 (.bool true) := by
  obtain ⟨hv, nv, fv, rfl, hpol, hsh, hsn, hsf⟩ := id h
  obtain ⟨a1, cap1, rfl, hcap1, hmx1, hel1⟩ := id hsh
  obtain ⟨a2, cap2, rfl, hcap2, hmx2, hel2⟩ := id hsn
  obtain ⟨a3, cap3, rfl, hcap3, hmx3, hel3⟩ := id hsf
  obtain ⟨rfl, hb1, hb2, hb3, hb4⟩ := id h2
  refine enter Tryz.func6 rfl Tryz.ntmps6 rfl ?_
  have hS := St.start w0
  refine seq ?_
  refine region ?_
  refine sbox hS rfl rfl ?_; clear hS; intro b3 w hS
  refine sbox hS rfl rfl ?_; clear hS; intro b5 w hS
  refine sv (yAsg rfl) ?_
  refine nil ?_
  show Code.wp _ _ _ _ _
  refine seq ?_
  refine region ?_
  refine sv (yLdBA rfl Tryz.isAgg26 Tryz.sizeOf26 (hS.at _) rfl rfl) ?_
  refine sv (yMove rfl) ?_
  refine scall Tryz.call18 (.cons rfl (.cons rfl .nil)) (c_Plan (hg.ext hS.ext) (h.ext hS.ext)) ?_
  rintro _ w ⟨pv, rfl, hM⟩; replace hS := hS.step hM.ext; clear hM
  refine sv (yMove rfl) ?_
  refine sv (yExt rfl rfl) ?_
  refine sv (yExt rfl rfl) ?_
  refine sv (yAsg rfl) ?_
  refine sv (yAsg rfl) ?_
  refine nil ?_
  show Code.wp _ _ _ _ _
  refine seq ?_
  refine seq ?_
  refine region ?_
  refine sv (yMove rfl) ?_
  refine sv (yNeq rfl rfl) ?_
  refine sv (yMove rfl) ?_
  refine sg rfl rfl rfl (fun g => (fa26_3 rfl)) (fun v29 g29 => ?_)
  refine sg rfl rfl rfl (fun g => (yLdB (g29.1 g) Tryz.isAgg24 (hS.at _) rfl)) (fun v30 g30 => ?_)
  refine sg rfl rfl rfl (fun g => (yLen (g30.1 g) Tryz.underlying24)) (fun v31 g31 => ?_)
  refine sg rfl rfl rfl (fun g => (yEql (g31.1 g) rfl)) (fun v32 g32 => ?_)
  refine sv (yOr rfl rfl (fun hB => (g32.1 hB))) ?_
  refine nil ?_
  show Code.wp _ _ _ _ _
  refine cond rfl (fun c33 => ?_) (fun c33 => ?_)
  ·
    simp only [Bool.and_eq_true, Bool.or_eq_true, Bool.and_eq_false_iff, Bool.or_eq_false_iff, decide_eq_true_eq, decide_eq_false_iff_not, Bool.not_eq_true, Bool.not_eq_false, Bool.not_not, Bool.not_eq_eq_eq_not, Bool.not_true, Bool.not_false, Bool.false_eq_true, Bool.true_eq_false, ne_eq, Decidable.not_not, not_false_eq_true, not_true_eq_false] at c33
    refine seq ?_
    refine region ?_
    refine scall Tryz.call20 .nil (c_Awake (hg.ext hS.ext)) ?_
    rintro _ w ⟨rfl, hE⟩; replace hS := hS.step hE; clear hE
    refine sv (yAsg rfl) ?_
    refine nil ?_
    show Code.wp _ _ _ _ _
    refine wp_ret (thenR ?_)
    exact retV (res1 rfl rfl) hS.ext
  ·
    simp only [Bool.and_eq_true, Bool.or_eq_true, Bool.and_eq_false_iff, Bool.or_eq_false_iff, decide_eq_true_eq, decide_eq_false_iff_not, Bool.not_eq_true, Bool.not_eq_false, Bool.not_not, Bool.not_eq_eq_eq_not, Bool.not_true, Bool.not_false, Bool.false_eq_true, Bool.true_eq_false, ne_eq, Decidable.not_not, not_false_eq_true, not_true_eq_false] at c33
    have hp0 : (planR t now).2 = 0 := by omega
    obtain ⟨hck, hnow, -⟩ := planR_ok hp0
    have hok := task_ok hck
    have hn8 := hok.ntw
    have hc4 := hok.nch
    have hf8 := hok.nfl
    have hckA : (checkA (moreA t b.hist)).2.2 = 0 := chk_iff.2 (moreA_chk (chk_iff.1 hck) b.hist)
    refine skip ?_
    show Code.wp _ _ _ _ _
    refine seq ?_
    refine region ?_
    refine sv (yLdBA rfl Tryz.isAgg26 Tryz.sizeOf26 (hS.at _) rfl rfl) ?_
    refine salloc hS Tryz.zeroValue26 rfl ?_; clear hS; intro b9 w hS
    refine sst hS rfl rfl Tryz.sizeOf26 rfl rfl rfl rfl ?_; clear hS; intro w hS
    refine nil ?_
    show Code.wp _ _ _ _ _
    refine seqJ (n := 149) (fun f w => ∃ (fv : Value) (M : List Bx.Item), f 1 = .int .i64 now ∧ f 3 = .pointer (some ⟨b3, 0, none⟩) ∧ f 5 = .pointer (some ⟨b5, 0, none⟩) ∧ f 9 = .pointer (some ⟨b9, 0, none⟩) ∧ StX [] w0 w [packI M, blk b9 [.int .i64 t.polders, .slice a1 t.chans.length cap1, .slice a2 t.towns.length cap2, fv] 26, blk b5 [.int .u8 b.hist, .int .u8 b.room, .int .u8 b.delay, .int .u16 b.earl] 54, blk b3 [.int .i64 t.polders, .slice a1 t.chans.length cap1, .slice a2 t.towns.length cap2, .slice a3 t.floods.length cap3] 26] ∧ (∀ w', Ext w0 w' → (∀ it ∈ M, it.ok w') → Sl w' 1 RRow fv (moreF t.floods b.hist)) ∧ True) ?_ ?_
    ·
      refine seq ?_
      refine region ?_
      refine sv (fa26_3 rfl) ?_
      refine sv (yLdB rfl Tryz.isAgg24 (hS.at _) rfl) ?_
      refine sv (yLen rfl Tryz.underlying24) ?_
      refine sv (yGtr rfl rfl) ?_
      refine nil ?_
      show Code.wp _ _ _ _ _
      refine cond rfl (fun c39 => ?_) (fun c39 => ?_)
      ·
        simp only [Bool.and_eq_true, Bool.or_eq_true, Bool.and_eq_false_iff, Bool.or_eq_false_iff, decide_eq_true_eq, decide_eq_false_iff_not, Bool.not_eq_true, Bool.not_eq_false, Bool.not_not, Bool.not_eq_eq_eq_not, Bool.not_true, Bool.not_false, Bool.false_eq_true, Bool.true_eq_false, ne_eq, Decidable.not_not, not_false_eq_true, not_true_eq_false] at c39
        have c39 : 1 < t.floods.length := by omega
        obtain ⟨kk, hkk, hkl⟩ : ∃ kk : Nat, b.hist % (t.floods.length : Int) = (kk : Int) ∧ kk < t.floods.length := ⟨(b.hist % (t.floods.length : Int)).toNat, by have := Int.emod_nonneg b.hist (show (t.floods.length : Int) ≠ 0 by omega); omega, more_k b.hist c39⟩
        obtain ⟨c1, c2, hr1, hr2, hn1, hn2⟩ := sl_cut hsf hkl
        have hf1 := hr1.flen
        have hf2 := hr2.flen
        rw [List.length_take, Nat.min_eq_left (by omega)] at hf1
        rw [List.length_drop] at hf2
        refine seq ?_
        refine region ?_
        refine sv (fa54_0 rfl) ?_
        refine sv (yLdB rfl Tryz.isAgg5 (hS.at _) rfl) ?_
        refine sv (yToI rfl Tryz.underlying5 Tryz.underlying3 ⟨by omega, by omega⟩) ?_
        refine sv (fa26_3 rfl) ?_
        refine sv (yLdB rfl Tryz.isAgg24 (hS.at _) rfl) ?_
        refine sv (yLen rfl Tryz.underlying24) ?_
        refine sv (yRemP rfl rfl (by omega) (by omega)) ?_
        refine sv (yAsg rfl) ?_
        refine nil ?_
        show Code.wp _ _ _ _ _
        refine region_mix (fun w => StX [] w0 w (blk b9 [.int .i64 t.polders, .slice a1 t.chans.length cap1, .slice a2 t.towns.length cap2, .slice a3 t.floods.length cap3] 26 :: blk b5 [.int .u8 b.hist, .int .u8 b.room, .int .u8 b.delay, .int .u16 b.earl] 54 :: blk b3 [.int .i64 t.polders, .slice a1 t.chans.length cap1, .slice a2 t.towns.length cap2, .slice a3 t.floods.length cap3] 26 :: [])) 13 mixed hS ?_
        clear hS; intro w hS
        refine f_step 1 (by kernel_rfl) rfl (fun c a a' w h => by obtain ⟨_, v, hv, _⟩ := h; cases hv) (hS.sub (List.Sublist.refl _)) (fun w hS => (fa26_3 rfl)) ?_
        refine f_step 2 (by kernel_rfl) rfl (fun c a a' w h => by obtain ⟨_, v, hv, _⟩ := h; cases hv) (hS.sub (List.Sublist.refl _)) (fun w hS => (yLdB rfl Tryz.isAgg24 (hS.at _) rfl)) ?_
        refine f_step 3 (by kernel_rfl) rfl (fun c a a' w h => by obtain ⟨_, v, hv, _⟩ := h; cases hv) (hS.sub (List.Sublist.refl _)) (fun w hS => (yMove rfl)) ?_
        refine f_step 4 (by kernel_rfl) rfl (fun c a a' w h => by obtain ⟨_, v, hv, _⟩ := h; cases hv) (hS.sub (List.Sublist.refl _)) (fun w hS => (yTo (i := kk) rfl (rfl.trans (congrArg (Value.int .i64) hkk)) Tryz.underlying24 Tryz.sizeOf34 (by have := hsf.fit; omega))) ?_
        refine f_step 6 (by kernel_rfl) rfl (fun c a a' w h => by obtain ⟨_, v, hv, _⟩ := h; cases hv) (hS.sub (List.Sublist.refl _)) (fun w hS => (fa26_3 rfl)) ?_
        refine f_step 7 (by kernel_rfl) rfl (fun c a a' w h => by obtain ⟨_, v, hv, _⟩ := h; cases hv) (hS.sub (List.Sublist.refl _)) (fun w hS => (yLdB rfl Tryz.isAgg24 (hS.at _) rfl)) ?_
        refine f_step 8 (by kernel_rfl) rfl (fun c a a' w h => by obtain ⟨_, v, hv, _⟩ := h; cases hv) (hS.sub (List.Sublist.refl _)) (fun w hS => (yMove rfl)) ?_
        refine f_step 9 (by kernel_rfl) rfl (fun c a a' w h => by obtain ⟨_, v, hv, _⟩ := h; cases hv) (hS.sub (List.Sublist.refl _)) (fun w hS => (yAdd rfl rfl ⟨by omega, by omega⟩)) ?_
        refine f_step 10 (by kernel_rfl) rfl (fun c a a' w h => by obtain ⟨_, v, hv, _⟩ := h; cases hv) (hS.sub (List.Sublist.refl _)) (fun w hS => (yFromA (i := kk + 1) rfl (rfl.trans (congrArg (Value.int .i64) (by rw [hkk]; rfl))) Tryz.underlying24 Tryz.sizeOf34 (by omega))) ?_
        show wpA _ _ _ _ _ _ _ _ _ _
        refine a_step (i := 0) (is := []) (by kernel_rfl) ⟨?_, trivial⟩
        refine ⟨_, rfl, ?_⟩
        refine sbslice0 hS Tryz.underlying24 Tryz.sizeOf34 ?_; clear hS; intro b47 w hS
        refine nil ?_
        refine ⟨fun _ => (hS.sub (.cons _ (List.Sublist.refl _))), ?_⟩
        show wpA _ _ _ _ _ _ _ _ _ _
        show wpA _ _ _ _ _ _ _ _ _ _
        refine a_step (i := 5) (is := []) (by kernel_rfl) ⟨?_, trivial⟩
        refine ⟨_, rfl, ?_⟩
        refine sappS (bytes := 24) (size := 1) hS rfl rfl Tryz.underlying24 ti34 rfl rfl rfl rfl (by decide) Tryz.sizeOf34 (fun hh => by obtain ⟨bd, od, e1, e2⟩ := hn1 hh; exact ⟨bd, od, e1, e2.ext hS.ext⟩) hf1 (rrow_one hr1) (by omega) (by omega) ?_; clear hS; intro v52 w hS; rw [Nat.zero_add kk, List.nil_append] at hS
        obtain ⟨a5, c5, rfl⟩ := row_shape (hS.row v52)
        refine nil ?_
        refine ⟨fun _ => (hS.sub (.cons _ (List.Sublist.refl _))), ?_⟩
        show wpA _ _ _ _ _ _ _ _ _ _
        show wpA _ _ _ _ _ _ _ _ _ _
        refine a_step (i := 11) (is := []) (by kernel_rfl) ⟨?_, trivial⟩
        refine ⟨_, rfl, ?_⟩
        refine sappS (bytes := 24) (size := 1) hS rfl rfl Tryz.underlying24 ti34 rfl rfl rfl rfl (by decide) Tryz.sizeOf34 (fun hh => by obtain ⟨bd, od, e1, e2⟩ := hn2 hh; exact ⟨bd, od, e1, e2.ext hS.ext⟩) hf2 (rrow_one hr2) (by omega) (by omega) ?_; clear hS; intro v58 w hS
        obtain ⟨a6, c6, rfl⟩ := row_shape (hS.row v58)
        refine nil ?_
        refine ⟨fun _ => (hS.sub (.cons _ (List.Sublist.refl _))), ?_⟩
        show wpA _ _ _ _ _ _ _ _ _ _
        refine f_step 12 (by kernel_rfl) rfl (fun c a a' w h => by obtain ⟨_, v, hv, _⟩ := h; cases hv) (hS.sub (.cons _ (List.Sublist.refl _))) (fun w hS => (fa26_3 rfl)) ?_
        show wpA _ _ _ _ _ _ _ _ _ _
        refine a_step (i := 13) (is := []) (by kernel_rfl) ⟨?_, trivial⟩
        refine ⟨_, rfl, ?_⟩
        refine sst hS rfl rfl Tryz.sizeOf24 rfl rfl rfl rfl ?_; clear hS; intro w hS
        refine nil ?_
        refine ⟨fun h => absurd h (by decide), ?_⟩
        show wpA _ _ _ _ _ _ _ _ _ _
        refine a_end (by kernel_rfl) ?_
        exact ⟨_, rfl, _, [rowI (.slice a6 (kk + (t.floods.length - (kk + 1))) c6) 34 1 (kk + (t.floods.length - (kk + 1))) (c1.flatten ++ c2.flatten)], rfl, rfl, rfl, rfl, (StX.pack (M := [_]) hS), (fun w' e hok => by rw [moreF_cut c39 hkk]; exact more_row hr1 hr2 e (hok _ (List.mem_singleton.2 rfl)) (by rw [List.length_append, List.length_take, List.length_drop]; omega)), trivial⟩
      ·
        simp only [Bool.and_eq_true, Bool.or_eq_true, Bool.and_eq_false_iff, Bool.or_eq_false_iff, decide_eq_true_eq, decide_eq_false_iff_not, Bool.not_eq_true, Bool.not_eq_false, Bool.not_not, Bool.not_eq_eq_eq_not, Bool.not_true, Bool.not_false, Bool.false_eq_true, Bool.true_eq_false, ne_eq, Decidable.not_not, not_false_eq_true, not_true_eq_false] at c39
        have c39 : ¬ 1 < t.floods.length := by omega
        refine skip ?_
        exact ⟨_, rfl, _, [], rfl, rfl, rfl, rfl, (StX.pack (M := []) hS), (fun w' e _ => by rw [moreF_all c39]; exact hsf.ext RRow.stays e), trivial⟩
    ·
      clear hS; rintro f w ⟨fv, M, h1, h3, h5, h9, hS, hF, -⟩
      refine seq ?_
      refine seq ?_
      refine region ?_
      refine sv (yAsg rfl) ?_
      refine nil ?_
      show Code.wp _ _ _ _ _
      refine block ?_
      refine loop (fun f w zz => ∃ (k : Nat), f 1 = .int .i64 now ∧ f 3 = .pointer (some ⟨b3, 0, none⟩) ∧ f 5 = .pointer (some ⟨b5, 0, none⟩) ∧ f 9 = .pointer (some ⟨b9, 0, none⟩) ∧ f 11 = .int .i64 (k : Int) ∧ StX [] w0 w [packI M, blk b9 [.int .i64 t.polders, .slice a1 t.chans.length cap1, .slice a2 t.towns.length cap2, fv] 26, blk b5 [.int .u8 b.hist, .int .u8 b.room, .int .u8 b.delay, .int .u16 b.earl] 54, blk b3 [.int .i64 t.polders, .slice a1 t.chans.length cap1, .slice a2 t.towns.length cap2, .slice a3 t.floods.length cap3] 26] ∧ (k ≤ t.towns.length) ∧ zz = t.towns.length - k) _ ⟨_, rfl, 0, h1, h3, h5, h9, rfl, hS, (Nat.zero_le _), rfl⟩ ?_
      clear hS
      rintro f w _ ⟨k, h1, h3, h5, h9, h11, hS, hk, rfl⟩
      refine seq ?_
      refine seq ?_
      refine region ?_
      refine sv (yMove h11) ?_
      refine sv (fa26_2 h3) ?_
      refine sv (yLdB rfl Tryz.isAgg23 (hS.at _) rfl) ?_
      refine sv (yLen rfl Tryz.underlying23) ?_
      refine sv (yLss rfl rfl) ?_
      refine nil ?_
      show Code.wp _ _ _ _ _
      refine cond rfl (fun c64 => ?_) (fun c64 => ?_)
      ·
        simp only [Bool.and_eq_true, Bool.or_eq_true, Bool.and_eq_false_iff, Bool.or_eq_false_iff, decide_eq_true_eq, decide_eq_false_iff_not, Bool.not_eq_true, Bool.not_eq_false, Bool.not_not, Bool.not_eq_eq_eq_not, Bool.not_true, Bool.not_false, Bool.false_eq_true, Bool.true_eq_false, ne_eq, Decidable.not_not, not_false_eq_true, not_true_eq_false] at c64
        have hib : 0 ≤ (k : Int) ∧ (k : Int) < t.towns.length := by omega
        obtain ⟨e0, hz0, ha0⟩ : ∃ e0 : Int, e0 = 0 ∧ arrR t (k : Int) = (arr t (k : Int), e0) := ⟨0, rfl, arrR_of hck hib⟩
        obtain ⟨e1, hz1, ha1⟩ : ∃ e1 : Int, e1 = 0 ∧ arrR (moreA t b.hist) (k : Int) = (arr (moreA t b.hist) (k : Int), e1) := ⟨0, rfl, arrR_of (t := moreA t b.hist) hckA hib⟩
        have hle : 0 < (arr (moreA t b.hist) (k : Int)).2 → (arr t (k : Int)).1.lo ≤ (arr (moreA t b.hist) (k : Int)).1.lo := fun hh => (arr_less (t := t) (u := moreA t b.hist) rfl (more_sub t.floods b.hist) hh).2
        refine skip ?_
        show Code.wp _ _ _ _ _
        refine seq ?_
        refine block ?_
        refine seq ?_
        refine region ?_
        refine sv (yLdBA h3 Tryz.isAgg26 Tryz.sizeOf26 (hS.at _) rfl rfl) ?_
        refine sv (yMove h11) ?_
        refine scall Tryz.call23 (.cons rfl (.cons rfl .nil)) (c_Arrival (hg.ext hS.ext) (h.ext hS.ext)) ?_
        rw [ha0]
        rintro _ w ⟨rfl, hE⟩; replace hS := hS.step hE; clear hE
        refine sv (yMove rfl) ?_
        refine sv (yExt rfl rfl) ?_
        refine sv (yExt rfl rfl) ?_
        refine sv (yExt rfl rfl) ?_
        refine salloc hS Tryz.zeroValue44 rfl ?_; clear hS; intro b12 w hS
        refine sst hS rfl rfl Tryz.sizeOf44 rfl rfl rfl rfl ?_; clear hS; intro w hS
        refine sv (yAsg rfl) ?_
        refine sv (yAsg rfl) ?_
        refine nil ?_
        show Code.wp _ _ _ _ _
        refine seqJ (n := 149) (fun f w => ∃ (b12 b15 : Nat), f 1 = .int .i64 now ∧ f 3 = .pointer (some ⟨b3, 0, none⟩) ∧ f 5 = .pointer (some ⟨b5, 0, none⟩) ∧ f 9 = .pointer (some ⟨b9, 0, none⟩) ∧ f 11 = .int .i64 (k : Int) ∧ f 12 = .pointer (some ⟨b12, 0, none⟩) ∧ f 14 = .int .i64 e0 ∧ f 15 = .pointer (some ⟨b15, 0, none⟩) ∧ f 16 = .int .i64 (arr (moreA t b.hist) (k : Int)).2 ∧ f 17 = .int .i64 e1 ∧ StX [] w0 w [blk b15 (spanC (arr (moreA t b.hist) (k : Int)).1) 44, blk b12 (spanC (arr t (k : Int)).1) 44, packI M, blk b9 [.int .i64 t.polders, .slice a1 t.chans.length cap1, .slice a2 t.towns.length cap2, fv] 26, blk b5 [.int .u8 b.hist, .int .u8 b.room, .int .u8 b.delay, .int .u16 b.earl] 54, blk b3 [.int .i64 t.polders, .slice a1 t.chans.length cap1, .slice a2 t.towns.length cap2, .slice a3 t.floods.length cap3] 26] ∧ True) ?_ ?_
        ·
          refine region ?_
          refine sv (yLdBA h9 Tryz.isAgg26 Tryz.sizeOf26 (hS.at _) rfl rfl) ?_
          refine sv (yMove h11) ?_
          refine scall Tryz.call23 (.cons rfl (.cons rfl .nil)) (c_Arrival (t := moreA t b.hist) (hg.ext hS.ext) ⟨_, _, _, rfl, hpol, hsh.ext RChan.stays hS.ext, hsn.ext RTown.stays hS.ext, hF _ hS.ext (fun it hit => hS.inpack (by simp) hit)⟩) ?_
          rw [ha1]
          rintro _ w ⟨rfl, hE⟩; replace hS := hS.step hE; clear hE
          refine sv (yMove rfl) ?_
          refine sv (yExt rfl rfl) ?_
          refine sv (yExt rfl rfl) ?_
          refine sv (yExt rfl rfl) ?_
          refine salloc hS Tryz.zeroValue44 rfl ?_; clear hS; intro b15 w hS
          refine sst hS rfl rfl Tryz.sizeOf44 rfl rfl rfl rfl ?_; clear hS; intro w hS
          refine sv (yAsg rfl) ?_
          refine sv (yAsg rfl) ?_
          refine nil ?_
          exact ⟨_, rfl, b12, b15, h1, h3, h5, h9, h11, rfl, rfl, rfl, rfl, rfl, hS, trivial⟩
        ·
          clear hS; rintro f w ⟨b12, b15, h1, h3, h5, h9, h11, h12, h14, h15, h16, h17, hS, -⟩
          refine seq ?_
          refine region ?_
          refine sv (yMove h14) ?_
          refine sv (yNeq rfl rfl) ?_
          refine sv (yMove rfl) ?_
          refine sg rfl rfl rfl (fun g => (yMove h17)) (fun v84 g84 => ?_)
          refine sg rfl rfl rfl (fun g => (yNeq (g84.1 g) rfl)) (fun v85 g85 => ?_)
          refine sv (yOr rfl rfl (fun hB => (g85.1 hB))) ?_
          refine sv (yMove rfl) ?_
          refine sg rfl rfl rfl (fun g => (yMove h16)) (fun v88 g88 => ?_)
          refine sg rfl rfl rfl (fun g => (yGtr (g88.1 g) rfl)) (fun v89 g89 => ?_)
          refine sg rfl rfl rfl (fun g => (yMove (g89.1 g))) (fun v90 g90 => ?_)
          refine sgg rfl rfl g90 (fun g => (fa44_0 h15)) (fun v91 g91 => ?_)
          refine sgg rfl rfl g90 (fun g => (yLdB (g91.1 g) Tryz.isAgg3 (hS.at _) rfl)) (fun v92 g92 => ?_)
          refine sgg rfl rfl g90 (fun g => (fa44_0 h12)) (fun v93 g93 => ?_)
          refine sgg rfl rfl g90 (fun g => (yLdB (g93.1 g) Tryz.isAgg3 (hS.at _) rfl)) (fun v94 g94 => ?_)
          refine sgg rfl rfl g90 (fun g => (yLss (g92.1 g) (g94.1 g))) (fun v95 g95 => ?_)
          refine sg rfl rfl rfl (fun g => (yAnd (g90.1 g) (fun hB => (g95.1 ⟨g, hB⟩)) rfl)) (fun v96 g96 => ?_)
          refine sv (yOr rfl rfl (fun hB => (g96.1 hB))) ?_
          refine nil ?_
          show Code.wp _ _ _ _ _
          refine cond rfl (fun c97 => ?_) (fun c97 => ?_)
          ·
            simp only [Bool.and_eq_true, Bool.or_eq_true, Bool.and_eq_false_iff, Bool.or_eq_false_iff, decide_eq_true_eq, decide_eq_false_iff_not, Bool.not_eq_true, Bool.not_eq_false, Bool.not_not, Bool.not_eq_eq_eq_not, Bool.not_true, Bool.not_false, Bool.false_eq_true, Bool.true_eq_false, ne_eq, Decidable.not_not, not_false_eq_true, not_true_eq_false] at c97
            exfalso; omega
          ·
            simp only [Bool.and_eq_true, Bool.or_eq_true, Bool.and_eq_false_iff, Bool.or_eq_false_iff, decide_eq_true_eq, decide_eq_false_iff_not, Bool.not_eq_true, Bool.not_eq_false, Bool.not_not, Bool.not_eq_eq_eq_not, Bool.not_true, Bool.not_false, Bool.false_eq_true, Bool.true_eq_false, ne_eq, Decidable.not_not, not_false_eq_true, not_true_eq_false] at c97
            refine skip ?_
            show Code.wp _ _ _ _ _
            refine region ?_
            refine sv (yMove h11) ?_
            refine sv (yAdd rfl rfl ⟨by omega, by omega⟩) ?_
            refine sv (yAsg rfl) ?_
            refine nil ?_
            exact ⟨_, _, rfl, ⟨k + 1, h1, h3, h5, h9, rfl, (hS.sub (.cons _ (.cons _ (List.Sublist.refl _)))), (by omega), rfl⟩, by omega⟩
      ·
        simp only [Bool.and_eq_true, Bool.or_eq_true, Bool.and_eq_false_iff, Bool.or_eq_false_iff, decide_eq_true_eq, decide_eq_false_iff_not, Bool.not_eq_true, Bool.not_eq_false, Bool.not_not, Bool.not_eq_eq_eq_not, Bool.not_true, Bool.not_false, Bool.false_eq_true, Bool.true_eq_false, ne_eq, Decidable.not_not, not_false_eq_true, not_true_eq_false] at c64
        refine exit ?_
        show Code.wp _ _ _ _ _
        refine seq ?_
        refine region ?_
        refine sv (fa26_1 h9) ?_
        refine sst hS rfl rfl Tryz.sizeOf22 rfl rfl rfl rfl ?_; clear hS; intro w hS
        refine nil ?_
        show Code.wp _ _ _ _ _
        refine seq ?_
        refine seq ?_
        refine region ?_
        refine sv (yAsg rfl) ?_
        refine nil ?_
        show Code.wp _ _ _ _ _
        refine block ?_
        refine loop (fun f w zz => ∃ (j : Nat) (vc : Value), f 1 = .int .i64 now ∧ f 3 = .pointer (some ⟨b3, 0, none⟩) ∧ f 5 = .pointer (some ⟨b5, 0, none⟩) ∧ f 9 = .pointer (some ⟨b9, 0, none⟩) ∧ f 18 = .int .i64 (j : Int) ∧ StX [] w0 w [rowI vc 41 3 j (((t.chans.take j).map (moreC b)).flatMap chanC), packI M, blk b9 [.int .i64 t.polders, vc, .slice a2 t.towns.length cap2, fv] 26, blk b5 [.int .u8 b.hist, .int .u8 b.room, .int .u8 b.delay, .int .u16 b.earl] 54, blk b3 [.int .i64 t.polders, .slice a1 t.chans.length cap1, .slice a2 t.towns.length cap2, .slice a3 t.floods.length cap3] 26] ∧ (j ≤ t.chans.length) ∧ zz = t.chans.length - j) _ ⟨_, rfl, 0, _, h1, h3, h5, h9, rfl, (hS.nilrow 41 3), (Nat.zero_le _), rfl⟩ ?_
        clear hS
        rintro f w _ ⟨j, vc, h1, h3, h5, h9, h18, hS, hj, rfl⟩
        refine seq ?_
        refine seq ?_
        refine region ?_
        refine sv (yMove h18) ?_
        refine sv (fa26_1 h3) ?_
        refine sv (yLdB rfl Tryz.isAgg22 (hS.at _) rfl) ?_
        refine sv (yLen rfl Tryz.underlying22) ?_
        refine sv (yLss rfl rfl) ?_
        refine nil ?_
        show Code.wp _ _ _ _ _
        refine cond rfl (fun c103 => ?_) (fun c103 => ?_)
        ·
          simp only [Bool.and_eq_true, Bool.or_eq_true, Bool.and_eq_false_iff, Bool.or_eq_false_iff, decide_eq_true_eq, decide_eq_false_iff_not, Bool.not_eq_true, Bool.not_eq_false, Bool.not_not, Bool.not_eq_eq_eq_not, Bool.not_true, Bool.not_false, Bool.false_eq_true, Bool.true_eq_false, ne_eq, Decidable.not_not, not_false_eq_true, not_true_eq_false] at c103
          obtain ⟨c, hxc, -⟩ := drop_of (l := t.chans) (k := j) (by omega)
          obtain ⟨bc, oc, csc, hac, hlc, hcsc, hRc, -⟩ := sl_at hsh hxc
          obtain ⟨rfl, -⟩ := hRc
          have hco := hok.chan c (List.mem_of_getElem? hxc)
          refine skip ?_
          show Code.wp _ _ _ _ _
          refine seq ?_
          refine block ?_
          refine seq ?_
          refine region ?_
          refine sv (fa26_1 h3) ?_
          refine sv (yLdB rfl Tryz.isAgg22 (hS.at _) rfl) ?_
          refine sv (yMove h18) ?_
          refine sv (yIxa rfl hac rfl Tryz.runUnderlying22 Tryz.sizeOf41 (by omega) (by omega)) ?_
          refine sv (yLdA rfl Tryz.isAgg41 Tryz.sizeOf41 (hcsc.ext hS.ext) rfl) ?_
          refine salloc hS Tryz.zeroValue41 rfl ?_; clear hS; intro b19 w hS
          refine sst hS rfl rfl Tryz.sizeOf41 rfl rfl rfl rfl ?_; clear hS; intro w hS
          refine nil ?_
          show Code.wp _ _ _ _ _
          refine seq ?_
          refine region_two mixed [0, 1, 0, 2, 0, 0, 0, 0, 1, 0, 2, 0, 0, 0] 15 18 (fun w => StX [] w0 w (blk b19 (chanC c) 41 :: rowI vc 41 3 j (((t.chans.take j).map (moreC b)).flatMap chanC) :: packI M :: blk b9 [.int .i64 t.polders, vc, .slice a2 t.towns.length cap2, fv] 26 :: blk b5 [.int .u8 b.hist, .int .u8 b.room, .int .u8 b.delay, .int .u16 b.earl] 54 :: blk b3 [.int .i64 t.polders, .slice a1 t.chans.length cap1, .slice a2 t.towns.length cap2, .slice a3 t.floods.length cap3] 26 :: [])) (fun w => StX [] w0 w [blk b5 [.int .u8 b.hist, .int .u8 b.room, .int .u8 b.delay, .int .u16 b.earl] 54]) (by kernel_rfl) (fun c a a' w h => by obtain ⟨_, v, hv, _⟩ := h; cases hv) hS (fun _ h => h) (fun _ h => h.sub (.cons _ (.cons _ (.cons _ (.cons _ (.cons_cons _ (List.nil_sublist _))))))) ?_
          clear hS; intro w hS
          refine hv0 (fun w => (fa41_2 rfl)) ?_
          refine hv1 (fun w hS => (yLdB rfl Tryz.isAgg3 (hS.at _) rfl)) ?_
          refine hv0 (fun w => (fa54_1 h5)) ?_
          refine hv2 (fun w hS => (yLdB rfl Tryz.isAgg5 (hS.at _) rfl)) ?_
          refine hv0 (fun w => (yToI rfl Tryz.underlying5 Tryz.underlying3 ⟨by omega, by omega⟩)) ?_
          refine hv0 (fun w => (yAdd rfl rfl ⟨by omega, by omega⟩)) ?_
          refine hv0 (fun w => (yMin rfl rfl)) ?_
          refine hv0 (fun w => (fa41_1 rfl)) ?_
          refine hv1 (fun w hS => (yLdB rfl Tryz.isAgg3 (hS.at _) rfl)) ?_
          refine hv0 (fun w => (fa54_2 h5)) ?_
          refine hv2 (fun w hS => (yLdB rfl Tryz.isAgg5 (hS.at _) rfl)) ?_
          refine hv0 (fun w => (yToI rfl Tryz.underlying5 Tryz.underlying3 ⟨by omega, by omega⟩)) ?_
          refine hv0 (fun w => (ySub rfl rfl ⟨by omega, by omega⟩)) ?_
          refine hv0 (fun w => (yMax rfl rfl)) ?_
          refine hgnil ?_
          show wpR _ _ _ _ _ _ _ _ _ _ _ _
          refine r_step (i := 14) (is := []) (by kernel_rfl) ⟨?_, trivial⟩
          refine ⟨_, rfl, ?_⟩
          refine sv (fa41_2 rfl) ?_
          refine nil ?_
          refine ⟨⟨fun _ h => h, fun _ h => h⟩, ?_⟩
          show wpR _ _ _ _ _ _ _ _ _ _ _ _
          refine r_step (i := 15) (is := []) (by kernel_rfl) ⟨?_, trivial⟩
          refine ⟨_, rfl, ?_⟩
          refine sst hS rfl rfl Tryz.sizeOf3 rfl rfl rfl rfl ?_; clear hS; intro w hS
          refine nil ?_
          refine ⟨⟨fun h => absurd h (by decide), fun _ _ => (hS.sub (.cons _ (.cons _ (.cons _ (.cons _ (.cons_cons _ (List.nil_sublist _)))))))⟩, ?_⟩
          show wpR _ _ _ _ _ _ _ _ _ _ _ _
          refine r_step (i := 16) (is := []) (by kernel_rfl) ⟨?_, trivial⟩
          refine ⟨_, rfl, ?_⟩
          refine sv (fa41_1 rfl) ?_
          refine nil ?_
          refine ⟨⟨fun _ h => h, fun _ h => h⟩, ?_⟩
          show wpR _ _ _ _ _ _ _ _ _ _ _ _
          refine r_step (i := 17) (is := []) (by kernel_rfl) ⟨?_, trivial⟩
          refine ⟨_, rfl, ?_⟩
          refine sst hS rfl rfl Tryz.sizeOf3 rfl rfl rfl rfl ?_; clear hS; intro w hS
          refine nil ?_
          refine ⟨⟨fun h => absurd h (by decide), fun _ _ => (hS.sub (.cons _ (.cons _ (.cons _ (.cons _ (.cons_cons _ (List.nil_sublist _)))))))⟩, ?_⟩
          show wpR _ _ _ _ _ _ _ _ _ _ _ _
          refine r_end (by kernel_rfl) ?_
          show Code.wp _ _ _ _ _
          refine region ?_
          refine sv (fa26_1 h9) ?_
          refine sv (yLdB rfl Tryz.isAgg22 (hS.at _) rfl) ?_
          refine sv (yLdBA rfl Tryz.isAgg41 Tryz.sizeOf41 (hS.at _) rfl rfl) ?_
          refine sbslice hS Tryz.underlying22 Tryz.sizeOf41 rfl Tryz.zeroValue41 rfl (.cons rfl rfl .nil) rfl ?_; clear hS; intro b130 w hS
          refine sapp (bytes := 32) (size := 3) (v := vc) (m := 1) hS rfl rfl Tryz.underlying22 ti41 rfl rfl rfl rfl (by decide) (blk_cells (hS.at _)) rfl rfl (by omega) (by omega) ?_; clear hS; intro v131 w hS
          obtain ⟨a7, c7, rfl⟩ := row_shape (hS.row v131)
          refine sv (fa26_1 h9) ?_
          refine sst hS rfl rfl Tryz.sizeOf22 rfl rfl rfl rfl ?_; clear hS; intro w hS
          refine nil ?_
          show Code.wp _ _ _ _ _
          refine region ?_
          refine sv (yMove h18) ?_
          refine sv (yAdd rfl rfl ⟨by omega, by omega⟩) ?_
          refine sv (yAsg rfl) ?_
          refine nil ?_
          exact ⟨_, _, rfl, ⟨j + 1, _, h1, h3, h5, h9, rfl, (by rw [take_snoc hxc, List.map_append, List.flatMap_append]; exact hS.sub (.cons _ (.cons _ (List.Sublist.refl _)))), (by omega), rfl⟩, by omega⟩
        ·
          simp only [Bool.and_eq_true, Bool.or_eq_true, Bool.and_eq_false_iff, Bool.or_eq_false_iff, decide_eq_true_eq, decide_eq_false_iff_not, Bool.not_eq_true, Bool.not_eq_false, Bool.not_not, Bool.not_eq_eq_eq_not, Bool.not_true, Bool.not_false, Bool.false_eq_true, Bool.true_eq_false, ne_eq, Decidable.not_not, not_false_eq_true, not_true_eq_false] at c103
          obtain rfl : j = t.chans.length := by omega
          rw [List.take_length] at hS
          have hch := chI_more (sl_all hsh (fun _ _ hh => hh.2)) hok hb2 hb3
          refine exit ?_
          show Code.wp _ _ _ _ _
          refine seq ?_
          refine region ?_
          refine sv (yLdBA h9 Tryz.isAgg26 Tryz.sizeOf26 (hS.at _) rfl rfl) ?_
          refine sv (yMove h1) ?_
          refine sv (fa54_3 h5) ?_
          refine sv (yLdB rfl Tryz.isAgg52 (hS.at _) rfl) ?_
          refine sv (yToI rfl Tryz.underlying52 Tryz.underlying3 ⟨by omega, by omega⟩) ?_
          refine sv (ySub rfl rfl ⟨by omega, by omega⟩) ?_
          refine sv (yMax rfl rfl) ?_
          refine scall Tryz.call18 (.cons rfl (.cons rfl .nil)) (c_Plan (t := moreT t b) (hg.ext hS.ext) ⟨_, _, _, rfl, hpol, sl_chans (hS.row vc) (List.length_map _) hch, hsn.ext RTown.stays hS.ext, hF _ hS.ext (fun it hit => hS.inpack (by simp) hit)⟩) ?_
          rintro _ w ⟨qv, rfl, hM⟩; replace hS := hS.step hM.ext; clear hM
          refine sv (yMove rfl) ?_
          refine sv (yExt rfl rfl) ?_
          refine sv (yExt rfl rfl) ?_
          refine sv (yAsg rfl) ?_
          refine nil ?_
          show Code.wp _ _ _ _ _
          refine seq ?_
          refine region ?_
          refine sv (yMove rfl) ?_
          refine sv (yEql rfl rfl) ?_
          refine sv (yMove rfl) ?_
          refine sgc hS rfl rfl rfl Tryz.call20 (fun g => .nil) (fun g => (c_Awake (hg.ext hS.ext))) ?_; clear hS; intro v147 w hS g147
          refine sv (yAnd rfl (fun hB => (g147.1 hB)) rfl) ?_
          refine sv (yAsg rfl) ?_
          refine nil ?_
          show Code.wp _ _ _ _ _
          refine wp_ret ?_
          exact retV (res1 rfl (eqB (by rw [more_law hb2.1 hb3.1 hb4.1 hp0]; simp))) hS.ext
end Go.Proofs.YtmoilbakmlekbaaGreatDoor

/- part RdF -/
namespace Go.Proofs.YtmoilbakmlekbaaGreatDoor
open Go Bx
section
variable {H : Type} {enc : TypeId × Value → H} {w : World} {base : Nat} {spare : Nat → Bool} {held : Bool} {fuel : Nat} {cs : List Value} {x : DataW H × List MemPlace}
theorem rdF26 (h : DataW.trod enc Tryz.prog w base spare held fuel 26 cs = some x) (hW : WOk Tryz.prog 26 x.1) : ∃ n c0 c1 c2 c3, cs = [c0, c1, c2, c3] ∧ (∃ y, DataW.trod enc Tryz.prog w base spare held n 3 [c0] = some y ∧ WOk Tryz.prog 3 y.1) ∧ (∃ y, DataW.trod enc Tryz.prog w base spare held n 22 [c1] = some y ∧ WOk Tryz.prog 22 y.1) ∧ (∃ y, DataW.trod enc Tryz.prog w base spare held n 23 [c2] = some y ∧ WOk Tryz.prog 23 y.1) ∧ (∃ y, DataW.trod enc Tryz.prog w base spare held n 24 [c3] = some y ∧ WOk Tryz.prog 24 y.1) := by
  have z3 : Tryz.prog.cellsOf 3 = 1 := by kernel_rfl
  have z22 : Tryz.prog.cellsOf 22 = 1 := by kernel_rfl
  have z23 : Tryz.prog.cellsOf 23 = 1 := by kernel_rfl
  have z24 : Tryz.prog.cellsOf 24 = 1 := by kernel_rfl
  obtain ⟨hl, n, hf⟩ := rdw_fields Tryz.underlying26 h hW
  have hz : Tryz.prog.cellsOf 26 = 4 := by kernel_rfl
  rw [hz] at hl
  obtain ⟨c0, c1, c2, c3, rfl⟩ := four_of hl
  have f0 : ∃ y, DataW.trod enc Tryz.prog w base spare held n 3 ((List.drop 0 [c0, c1, c2, c3]).take (Tryz.prog.cellsOf 3)) = some y ∧ WOk Tryz.prog 3 y.1 := hf 0 _ rfl
  rw [z3] at f0
  have f1 : ∃ y, DataW.trod enc Tryz.prog w base spare held n 22 ((List.drop 1 [c0, c1, c2, c3]).take (Tryz.prog.cellsOf 22)) = some y ∧ WOk Tryz.prog 22 y.1 := hf 1 _ rfl
  rw [z22] at f1
  have f2 : ∃ y, DataW.trod enc Tryz.prog w base spare held n 23 ((List.drop 2 [c0, c1, c2, c3]).take (Tryz.prog.cellsOf 23)) = some y ∧ WOk Tryz.prog 23 y.1 := hf 2 _ rfl
  rw [z23] at f2
  have f3 : ∃ y, DataW.trod enc Tryz.prog w base spare held n 24 ((List.drop 3 [c0, c1, c2, c3]).take (Tryz.prog.cellsOf 24)) = some y ∧ WOk Tryz.prog 24 y.1 := hf 3 _ rfl
  rw [z24] at f3
  exact ⟨n, c0, c1, c2, c3, rfl, f0, f1, f2, f3⟩
theorem rdF36 (h : DataW.trod enc Tryz.prog w base spare held fuel 36 cs = some x) (hW : WOk Tryz.prog 36 x.1) : ∃ n c0 c1 c2 c3 c4, cs = [c0, c1, c2, c3, c4] ∧ (∃ y, DataW.trod enc Tryz.prog w base spare held n 9 [c0] = some y ∧ WOk Tryz.prog 9 y.1) ∧ (∃ y, DataW.trod enc Tryz.prog w base spare held n 3 [c1] = some y ∧ WOk Tryz.prog 3 y.1) ∧ (∃ y, DataW.trod enc Tryz.prog w base spare held n 3 [c2] = some y ∧ WOk Tryz.prog 3 y.1) ∧ (∃ y, DataW.trod enc Tryz.prog w base spare held n 3 [c3] = some y ∧ WOk Tryz.prog 3 y.1) ∧ (∃ y, DataW.trod enc Tryz.prog w base spare held n 34 [c4] = some y ∧ WOk Tryz.prog 34 y.1) := by
  have z3 : Tryz.prog.cellsOf 3 = 1 := by kernel_rfl
  have z9 : Tryz.prog.cellsOf 9 = 1 := by kernel_rfl
  have z34 : Tryz.prog.cellsOf 34 = 1 := by kernel_rfl
  obtain ⟨hl, n, hf⟩ := rdw_fields Tryz.underlying36 h hW
  have hz : Tryz.prog.cellsOf 36 = 5 := by kernel_rfl
  rw [hz] at hl
  obtain ⟨c0, c1, c2, c3, c4, rfl⟩ := five_of hl
  have f0 : ∃ y, DataW.trod enc Tryz.prog w base spare held n 9 ((List.drop 0 [c0, c1, c2, c3, c4]).take (Tryz.prog.cellsOf 9)) = some y ∧ WOk Tryz.prog 9 y.1 := hf 0 _ rfl
  rw [z9] at f0
  have f1 : ∃ y, DataW.trod enc Tryz.prog w base spare held n 3 ((List.drop 1 [c0, c1, c2, c3, c4]).take (Tryz.prog.cellsOf 3)) = some y ∧ WOk Tryz.prog 3 y.1 := hf 1 _ rfl
  rw [z3] at f1
  have f2 : ∃ y, DataW.trod enc Tryz.prog w base spare held n 3 ((List.drop 2 [c0, c1, c2, c3, c4]).take (Tryz.prog.cellsOf 3)) = some y ∧ WOk Tryz.prog 3 y.1 := hf 2 _ rfl
  rw [z3] at f2
  have f3 : ∃ y, DataW.trod enc Tryz.prog w base spare held n 3 ((List.drop 3 [c0, c1, c2, c3, c4]).take (Tryz.prog.cellsOf 3)) = some y ∧ WOk Tryz.prog 3 y.1 := hf 3 _ rfl
  rw [z3] at f3
  have f4 : ∃ y, DataW.trod enc Tryz.prog w base spare held n 34 ((List.drop 4 [c0, c1, c2, c3, c4]).take (Tryz.prog.cellsOf 34)) = some y ∧ WOk Tryz.prog 34 y.1 := hf 4 _ rfl
  rw [z34] at f4
  exact ⟨n, c0, c1, c2, c3, c4, rfl, f0, f1, f2, f3, f4⟩
theorem rdF41 (h : DataW.trod enc Tryz.prog w base spare held fuel 41 cs = some x) (hW : WOk Tryz.prog 41 x.1) : ∃ n c0 c1 c2, cs = [c0, c1, c2] ∧ (∃ y, DataW.trod enc Tryz.prog w base spare held n 9 [c0] = some y ∧ WOk Tryz.prog 9 y.1) ∧ (∃ y, DataW.trod enc Tryz.prog w base spare held n 3 [c1] = some y ∧ WOk Tryz.prog 3 y.1) ∧ (∃ y, DataW.trod enc Tryz.prog w base spare held n 3 [c2] = some y ∧ WOk Tryz.prog 3 y.1) := by
  have z3 : Tryz.prog.cellsOf 3 = 1 := by kernel_rfl
  have z9 : Tryz.prog.cellsOf 9 = 1 := by kernel_rfl
  obtain ⟨hl, n, hf⟩ := rdw_fields Tryz.underlying41 h hW
  have hz : Tryz.prog.cellsOf 41 = 3 := by kernel_rfl
  rw [hz] at hl
  obtain ⟨c0, c1, c2, rfl⟩ := three_of hl
  have f0 : ∃ y, DataW.trod enc Tryz.prog w base spare held n 9 ((List.drop 0 [c0, c1, c2]).take (Tryz.prog.cellsOf 9)) = some y ∧ WOk Tryz.prog 9 y.1 := hf 0 _ rfl
  rw [z9] at f0
  have f1 : ∃ y, DataW.trod enc Tryz.prog w base spare held n 3 ((List.drop 1 [c0, c1, c2]).take (Tryz.prog.cellsOf 3)) = some y ∧ WOk Tryz.prog 3 y.1 := hf 1 _ rfl
  rw [z3] at f1
  have f2 : ∃ y, DataW.trod enc Tryz.prog w base spare held n 3 ((List.drop 2 [c0, c1, c2]).take (Tryz.prog.cellsOf 3)) = some y ∧ WOk Tryz.prog 3 y.1 := hf 2 _ rfl
  rw [z3] at f2
  exact ⟨n, c0, c1, c2, rfl, f0, f1, f2⟩
theorem rdF54 (h : DataW.trod enc Tryz.prog w base spare held fuel 54 cs = some x) (hW : WOk Tryz.prog 54 x.1) : ∃ n c0 c1 c2 c3, cs = [c0, c1, c2, c3] ∧ (∃ y, DataW.trod enc Tryz.prog w base spare held n 5 [c0] = some y ∧ WOk Tryz.prog 5 y.1) ∧ (∃ y, DataW.trod enc Tryz.prog w base spare held n 5 [c1] = some y ∧ WOk Tryz.prog 5 y.1) ∧ (∃ y, DataW.trod enc Tryz.prog w base spare held n 5 [c2] = some y ∧ WOk Tryz.prog 5 y.1) ∧ (∃ y, DataW.trod enc Tryz.prog w base spare held n 52 [c3] = some y ∧ WOk Tryz.prog 52 y.1) := by
  have z5 : Tryz.prog.cellsOf 5 = 1 := by kernel_rfl
  have z52 : Tryz.prog.cellsOf 52 = 1 := by kernel_rfl
  obtain ⟨hl, n, hf⟩ := rdw_fields Tryz.underlying54 h hW
  have hz : Tryz.prog.cellsOf 54 = 4 := by kernel_rfl
  rw [hz] at hl
  obtain ⟨c0, c1, c2, c3, rfl⟩ := four_of hl
  have f0 : ∃ y, DataW.trod enc Tryz.prog w base spare held n 5 ((List.drop 0 [c0, c1, c2, c3]).take (Tryz.prog.cellsOf 5)) = some y ∧ WOk Tryz.prog 5 y.1 := hf 0 _ rfl
  rw [z5] at f0
  have f1 : ∃ y, DataW.trod enc Tryz.prog w base spare held n 5 ((List.drop 1 [c0, c1, c2, c3]).take (Tryz.prog.cellsOf 5)) = some y ∧ WOk Tryz.prog 5 y.1 := hf 1 _ rfl
  rw [z5] at f1
  have f2 : ∃ y, DataW.trod enc Tryz.prog w base spare held n 5 ((List.drop 2 [c0, c1, c2, c3]).take (Tryz.prog.cellsOf 5)) = some y ∧ WOk Tryz.prog 5 y.1 := hf 2 _ rfl
  rw [z5] at f2
  have f3 : ∃ y, DataW.trod enc Tryz.prog w base spare held n 52 ((List.drop 3 [c0, c1, c2, c3]).take (Tryz.prog.cellsOf 52)) = some y ∧ WOk Tryz.prog 52 y.1 := hf 3 _ rfl
  rw [z52] at f3
  exact ⟨n, c0, c1, c2, c3, rfl, f0, f1, f2, f3⟩
end
end Go.Proofs.YtmoilbakmlekbaaGreatDoor

/- part Rd1 -/
namespace Go.Proofs.YtmoilbakmlekbaaGreatDoor
open Go Bx
theorem rd_Ints : RdW Tryz.prog 34 (fun w cs (l : List Int) => ∃ v, cs = [v] ∧ Sl w 1 RInt v l ∧ l.length * 8 ≤ 140737488351232) := rdw_slice (Rd.w (rd_int Tryz.underlying3)) (by kernel_rfl) (by decide) Tryz.underlying34 (by kernel_rfl)
theorem rd_Row : RdW Tryz.prog 34 RRow := fun H enc w base spare held fuel cs x h hW => by obtain ⟨a, v, e, i, -⟩ := rd_Ints H enc w base spare held fuel cs x h hW; exact ⟨a, v, e, i⟩
theorem rd_Rows : RdW Tryz.prog 24 (fun w cs (l : List (List Int)) => ∃ v, cs = [v] ∧ Sl w 1 RRow v l ∧ l.length * 24 ≤ 140737488351232) := rdw_slice rd_Row (by kernel_rfl) (by decide) Tryz.underlying24 (by kernel_rfl)
theorem rd_Chan : RdW Tryz.prog 41 RChan := by
  intro H enc w base spare held fuel cs x h hW
  obtain ⟨n, c0, c1, c2, rfl, ⟨y0, f0, k0⟩, ⟨y1, f1, k1⟩, ⟨y2, f2, k2⟩⟩ := rdF41 h hW
  obtain ⟨a0, g0⟩ := (Rd.w (rd_str Tryz.underlying9)) _ _ _ _ _ _ _ _ _ f0 k0
  obtain ⟨a1, g1⟩ := (Rd.w (rd_int Tryz.underlying3)) _ _ _ _ _ _ _ _ _ f1 k1
  obtain ⟨a2, g2⟩ := (Rd.w (rd_int Tryz.underlying3)) _ _ _ _ _ _ _ _ _ f2 k2
  obtain ⟨e0, i0⟩ := g0; obtain ⟨e1, i1⟩ := g1; obtain ⟨e2, i2⟩ := g2; cases e0; cases e1; cases e2; exact ⟨⟨a0, a1, a2⟩, rfl, i0, i1, i2⟩
theorem rd_Chans : RdW Tryz.prog 22 (fun w cs (l : List Chan) => ∃ v, cs = [v] ∧ Sl w 3 RChan v l ∧ l.length * 32 ≤ 140737488351232) := rdw_slice rd_Chan (by kernel_rfl) (by decide) Tryz.underlying22 (by kernel_rfl)
theorem rd_Town : RdW Tryz.prog 36 RTown := by
  intro H enc w base spare held fuel cs x h hW
  obtain ⟨n, c0, c1, c2, c3, c4, rfl, ⟨y0, f0, k0⟩, ⟨y1, f1, k1⟩, ⟨y2, f2, k2⟩, ⟨y3, f3, k3⟩, ⟨y4, f4, k4⟩⟩ := rdF36 h hW
  obtain ⟨a0, g0⟩ := (Rd.w (rd_str Tryz.underlying9)) _ _ _ _ _ _ _ _ _ f0 k0
  obtain ⟨a1, g1⟩ := (Rd.w (rd_int Tryz.underlying3)) _ _ _ _ _ _ _ _ _ f1 k1
  obtain ⟨a2, g2⟩ := (Rd.w (rd_int Tryz.underlying3)) _ _ _ _ _ _ _ _ _ f2 k2
  obtain ⟨a3, g3⟩ := (Rd.w (rd_int Tryz.underlying3)) _ _ _ _ _ _ _ _ _ f3 k3
  obtain ⟨a4, g4⟩ := rd_Ints _ _ _ _ _ _ _ _ _ f4 k4
  obtain ⟨e0, i0⟩ := g0; obtain ⟨e1, i1⟩ := g1; obtain ⟨e2, i2⟩ := g2; obtain ⟨e3, i3⟩ := g3; obtain ⟨v4, e4, i4, r4⟩ := g4; cases e0; cases e1; cases e2; cases e3; cases e4; exact ⟨⟨a0, a1, a2, a3, a4⟩, _, rfl, i0, i1, i2, i3, i4, r4⟩
theorem rd_Towns : RdW Tryz.prog 23 (fun w cs (l : List Town) => ∃ v, cs = [v] ∧ Sl w 5 RTown v l ∧ l.length * 64 ≤ 140737488351232) := rdw_slice rd_Town (by kernel_rfl) (by decide) Tryz.underlying23 (by kernel_rfl)
theorem rd_Task : RdW Tryz.prog 26 RTask := by
  intro H enc w base spare held fuel cs x h hW
  obtain ⟨n, c0, c1, c2, c3, rfl, ⟨y0, f0, k0⟩, ⟨y1, f1, k1⟩, ⟨y2, f2, k2⟩, ⟨y3, f3, k3⟩⟩ := rdF26 h hW
  obtain ⟨a0, g0⟩ := (Rd.w (rd_int Tryz.underlying3)) _ _ _ _ _ _ _ _ _ f0 k0
  obtain ⟨a1, g1⟩ := rd_Chans _ _ _ _ _ _ _ _ _ f1 k1
  obtain ⟨a2, g2⟩ := rd_Towns _ _ _ _ _ _ _ _ _ f2 k2
  obtain ⟨a3, g3⟩ := rd_Rows _ _ _ _ _ _ _ _ _ f3 k3
  obtain ⟨e0, i0⟩ := g0; obtain ⟨v1, e1, i1, r1⟩ := g1; obtain ⟨v2, e2, i2, r2⟩ := g2; obtain ⟨v3, e3, i3, r3⟩ := g3; cases e0; cases e1; cases e2; cases e3; exact ⟨⟨a0, a1, a2, a3⟩, _, _, _, rfl, i0, i1, i2, i3⟩
end Go.Proofs.YtmoilbakmlekbaaGreatDoor

/- part Rd2 -/
namespace Go.Proofs.YtmoilbakmlekbaaGreatDoor
open Go Bx
theorem rd_Bett : RdW Tryz.prog 54 RBett := by
  intro H enc w base spare held fuel cs x h hW
  obtain ⟨n, c0, c1, c2, c3, rfl, ⟨y0, f0, k0⟩, ⟨y1, f1, k1⟩, ⟨y2, f2, k2⟩, ⟨y3, f3, k3⟩⟩ := rdF54 h hW
  obtain ⟨a0, e0, i0⟩ := (Rd.w (rd_u8 Tryz.underlying5)) _ _ _ _ _ _ _ _ _ f0 k0
  obtain ⟨a1, e1, i1⟩ := (Rd.w (rd_u8 Tryz.underlying5)) _ _ _ _ _ _ _ _ _ f1 k1
  obtain ⟨a2, e2, i2⟩ := (Rd.w (rd_u8 Tryz.underlying5)) _ _ _ _ _ _ _ _ _ f2 k2
  obtain ⟨a3, e3, i3⟩ := (Rd.w (rd_u16 Tryz.underlying52)) _ _ _ _ _ _ _ _ _ f3 k3
  cases e0; cases e1; cases e2; cases e3; exact ⟨⟨a0, a1, a2, a3⟩, rfl, i0, i1, i2, i3⟩
end Go.Proofs.YtmoilbakmlekbaaGreatDoor

/- part Laid -/
namespace Go.Proofs.YtmoilbakmlekbaaGreatDoor
open Go Bx Go.ChangeShapes Go.WideShapes Go.RowKit
theorem laidEt : Tryz.prog.globalNamed "errors.errorType" = some 0 := by kernel_rfl
theorem laidRt : (Tryz.prog.cutTypes.find? (·.1 == "internal/reflectlite.rtype")).map (·.2) = some 217 := by kernel_rfl
theorem laidOne : ((List.range 309).filter fun t => Tryz.prog.rowNamed t [101, 114, 114, 111, 114]) = [120] := by kernel_rfl
theorem laidSize : Tryz.prog.types.size = 309 := by kernel_rfl
theorem glb_of_laid {W : World} (h : laidMetH Tryz.prog [("errors.errorType", Rows.laid_errors_errorType)] W) : Glb W := by
  have h' : laidMet Tryz.prog [] W ∧ handlesMet Tryz.prog [("errors.errorType", Rows.laid_errors_errorType)] W := h
  obtain ⟨name, u, ty, e1, e2, e3, e4, e5⟩ := h'.2 _ (List.mem_singleton.2 rfl)
  have en : name = [101, 114, 114, 111, 114] := (Option.some.inj e1).symm
  subst en
  obtain rfl := Option.some.inj (laidRt.symm.trans e2)
  have hm : ty ∈ (List.range 309).filter fun t => Tryz.prog.rowNamed t [101, 114, 114, 111, 114] := List.mem_filter.2 ⟨List.mem_range.2 (by rw [← laidSize]; exact e3), e4⟩
  rw [laidOne] at hm
  obtain rfl := List.mem_singleton.1 hm
  have hh : typeHandle Tryz.prog 120 = .pointer (some ⟨1, 120, none⟩) := by kernel_rfl
  rw [hh] at e5
  simpa [Glb] using World.var?_cell laidEt e5 0
noncomputable def laidWorld (os : Os) : World :=
  let w0 := World.holding Tryz.prog os ⟨#[], #[], []⟩
  { w0 with heap := w0.heap.modify 0 fun
      | .cells _ t frozen => .cells #[.iface 217 (.agg #[.pointer (some ⟨1, 120, none⟩)])] t frozen
      | o => o }
theorem laidWorld_met (os : Os) (args : Array Value) : laidMetH Tryz.prog [("errors.errorType", Rows.laid_errors_errorType)] ((laidWorld os).forCall (fun _ _ => 0) ⟨#[], args, []⟩).memory :=
  laidMetH_of_parts (laidMet_nil _ _) (by kernel_rfl)
end Go.Proofs.YtmoilbakmlekbaaGreatDoor

