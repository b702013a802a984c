/- Merged texts, part 5. -/
import Derived.Test.YtmoilbakmlekbaaGreatDoorQ4
import Derived.Scope
import Derived.Test.YtmoilbakmlekbaaGreatDoorProg
import Derived.Test.YtmoilbakmlekbaaGreatDoorRows
import Derived.ChangeSame
import Derived.ChangeVars
import Derived.JoinedOf
import Derived.RowKit
import Derived.RowKitTokens
import Derived.LaidLaws
import Derived.LaidHandle
import Derived.Stop.Joined
set_option linter.all false
/- part Aw17 -/
namespace Go.Proofs.YtmoilbakmlekbaaGreatDoor
open Go Bx
set_option maxHeartbeats 2000000 in
/-- barrage/barragelaw11.Task -/
theorem c_Task {w0 : World} : CE Tryz.prog 42 #[] w0 (fun u w' => ∃ hv nv fv, u = .agg [.int .i64 exT.polders, hv, nv, fv].toArray ∧ RTask w' [.int .i64 exT.polders, hv, nv, fv] exT ∧ Ext w0 w') := by
  refine enter Tryz.func42 rfl Tryz.ntmps42 rfl ?_
  have hS := St.start w0
  refine seq ?_
  refine region ?_
  refine salloc hS Tryz.zeroValue26 rfl ?_; clear hS; intro b0 w hS
  refine nil ?_
  show Code.wp _ _ _ _ _
  refine seq ?_
  refine region ?_
  refine sv (yBuild Tryz.zeroValue41 rfl pl41 (.cons rfl rfl (.cons rfl rfl .nil)) rfl) ?_
  refine sv (yBuild Tryz.zeroValue41 rfl pl41 (.cons rfl rfl (.cons rfl rfl (.cons rfl rfl .nil))) rfl) ?_
  refine sbslice hS Tryz.underlying22 Tryz.sizeOf41 rfl Tryz.zeroValue41 rfl (.cons rfl rfl (.cons rfl rfl .nil)) rfl ?_; clear hS; intro b3 w hS
  refine sbslice hS Tryz.underlying34 Tryz.sizeOf3 rfl Tryz.zeroValue3 rfl (.cons rfl rfl (.cons rfl rfl .nil)) rfl ?_; clear hS; intro b4 w hS
  refine sv (yBuild Tryz.zeroValue36 rfl pl36 (.cons rfl rfl (.cons rfl rfl (.cons rfl rfl (.cons rfl rfl .nil)))) rfl) ?_
  refine sbslice hS Tryz.underlying34 Tryz.sizeOf3 rfl Tryz.zeroValue3 rfl (.cons rfl rfl .nil) rfl ?_; clear hS; intro b6 w hS
  refine sv (yBuild Tryz.zeroValue36 rfl pl36 (.cons rfl rfl (.cons rfl rfl (.cons rfl rfl (.cons rfl rfl .nil)))) rfl) ?_
  refine sbslice hS Tryz.underlying34 Tryz.sizeOf3 rfl Tryz.zeroValue3 rfl (.cons rfl rfl .nil) rfl ?_; clear hS; intro b8 w hS
  refine sv (yBuild Tryz.zeroValue36 rfl pl36 (.cons rfl rfl (.cons rfl rfl (.cons rfl rfl (.cons rfl rfl .nil)))) rfl) ?_
  refine sbslice hS Tryz.underlying23 Tryz.sizeOf36 rfl Tryz.zeroValue36 rfl (.cons rfl rfl (.cons rfl rfl (.cons rfl rfl .nil))) rfl ?_; clear hS; intro b10 w hS
  refine sbslice hS Tryz.underlying34 Tryz.sizeOf3 rfl Tryz.zeroValue3 rfl (.cons rfl rfl (.cons rfl rfl .nil)) rfl ?_; clear hS; intro b11 w hS
  refine sbslice hS Tryz.underlying34 Tryz.sizeOf3 rfl Tryz.zeroValue3 rfl (.cons rfl rfl (.cons rfl rfl .nil)) rfl ?_; clear hS; intro b12 w hS
  refine sbslice hS Tryz.underlying24 Tryz.sizeOf34 rfl Tryz.zeroValue34 rfl (.cons rfl rfl (.cons rfl rfl .nil)) rfl ?_; clear hS; intro b13 w hS
  refine sv (yBuild Tryz.zeroValue26 rfl pl26 (.cons rfl rfl (.cons rfl rfl (.cons rfl rfl (.cons rfl rfl .nil)))) rfl) ?_
  refine sst hS rfl rfl Tryz.sizeOf26 rfl rfl rfl rfl ?_; clear hS; intro w hS
  refine nil ?_
  show Code.wp _ _ _ _ _
  refine wp_ret ?_
  refine retQ (resV1 rfl (rc rfl Tryz.isAgg26 Tryz.sizeOf26 (hS.at b0) rfl rfl)) ?_
  exact ⟨_, _, _, rfl, ⟨_, _, _, rfl, by decide, (show Sl w 3 RChan (.slice (some ⟨b3, 0, none⟩) 2 2) ([exC1, exC2] : List Chan) from sl_of_blk (hS.at b3) (css := [[.string ⟨#[115, 105, 114, 101, 110]⟩, .int .i64 0, .int .i64 1], [.string ⟨#[114, 97, 100, 105, 111]⟩, .int .i64 2, .int .i64 2]]) (l := ([exC1, exC2] : List Chan)) rfl ⟨rfl, ⟨rfl, by decide, by decide, by decide⟩, rfl, ⟨rfl, by decide, by decide, by decide⟩, trivial⟩ (by decide) rfl), (show Sl w 5 RTown (.slice (some ⟨b10, 0, none⟩) 3 3) ([exT1, exT2, exT3] : List Town) from sl_of_blk (hS.at b10) (css := [[.string ⟨#[100, 105, 107, 101]⟩, .int .i64 0, .int .i64 3, .int .i64 4, .slice (some ⟨b4, 0, none⟩) 2 2], [.string ⟨#[109, 105, 108, 108]⟩, .int .i64 0, .int .i64 5, .int .i64 6, .slice (some ⟨b6, 0, none⟩) 1 1], [.string ⟨#[104, 105, 108, 108]⟩, .int .i64 1, .int .i64 0, .int .i64 10, .slice (some ⟨b8, 0, none⟩) 1 1]]) (l := ([exT1, exT2, exT3] : List Town)) rfl ⟨rfl, ⟨_, rfl, by decide, by decide, by decide, by decide, (ints_sl (l := [0, 1]) (hS.at b4) (by decide) (by decide)), (Nat.le_of_ble_eq_true rfl)⟩, rfl, ⟨_, rfl, by decide, by decide, by decide, by decide, (ints_sl (l := [0]) (hS.at b6) (by decide) (by decide)), (Nat.le_of_ble_eq_true rfl)⟩, rfl, ⟨_, rfl, by decide, by decide, by decide, by decide, (ints_sl (l := [1]) (hS.at b8) (by decide) (by decide)), (Nat.le_of_ble_eq_true rfl)⟩, trivial⟩ (by decide) rfl), (show Sl w 1 RRow (.slice (some ⟨b13, 0, none⟩) 2 2) ([[20, -1], [24, 40]] : List (List Int)) from sl_of_blk (hS.at b13) (css := [[.slice (some ⟨b11, 0, none⟩) 2 2], [.slice (some ⟨b12, 0, none⟩) 2 2]]) (l := ([[20, -1], [24, 40]] : List (List Int))) rfl ⟨rfl, ⟨_, rfl, (ints_sl (l := [20, -1]) (hS.at b11) (by decide) (by decide))⟩, rfl, ⟨_, rfl, (ints_sl (l := [24, 40]) (hS.at b12) (by decide) (by decide))⟩, trivial⟩ (by decide) rfl)⟩, hS.ext⟩
set_option maxHeartbeats 2000000 in
/-- barrage/barragelaw11.Log -/
theorem c_Log {w0 : World} : CE Tryz.prog 43 #[] w0 (fun u w' => Sl w' 5 RMsg u exL ∧ Ext w0 w') := by
  refine enter Tryz.func43 rfl Tryz.ntmps43 rfl ?_
  have hS := St.start w0
  refine seq ?_
  refine region ?_
  refine sv (yAsg rfl) ?_
  refine nil ?_
  show Code.wp _ _ _ _ _
  refine seq ?_
  refine region ?_
  refine sv (yBuild Tryz.zeroValue70 rfl pl70 (.cons rfl rfl (.cons rfl rfl (.cons rfl rfl (.cons rfl rfl (.cons rfl rfl .nil))))) rfl) ?_
  refine sv (yBuild Tryz.zeroValue70 rfl pl70 (.cons rfl rfl (.cons rfl rfl (.cons rfl rfl (.cons rfl rfl (.cons rfl rfl .nil))))) rfl) ?_
  refine sbslice hS Tryz.underlying62 Tryz.sizeOf70 rfl Tryz.zeroValue70 rfl (.cons rfl rfl (.cons rfl rfl .nil)) rfl ?_; clear hS; intro b3 w hS
  refine sv (yAsg rfl) ?_
  refine nil ?_
  show Code.wp _ _ _ _ _
  refine wp_ret ?_
  refine retQ (res1 rfl rfl) ?_
  exact ⟨(show Sl w 5 RMsg (.slice (some ⟨b3, 0, none⟩) 2 2) ([⟨1, 0, 2, 0, 18⟩, ⟨2, 2, 1, 1, 18⟩] : List Msg) from sl_of_blk (hS.at b3) (css := [[.int .i64 1, .int .i64 0, .int .i64 2, .int .i64 0, .int .i64 18], [.int .i64 2, .int .i64 2, .int .i64 1, .int .i64 1, .int .i64 18]]) (l := ([⟨1, 0, 2, 0, 18⟩, ⟨2, 2, 1, 1, 18⟩] : List Msg)) rfl ⟨rfl, ⟨rfl, by decide, by decide, by decide, by decide, by decide⟩, rfl, ⟨rfl, by decide, by decide, by decide, by decide, by decide⟩, trivial⟩ (by decide) rfl), hS.ext⟩
/-- barrage/barrageref11.Messages -/
theorem c_Msgs {la lb : List Msg} {va vb : Value} {w0 : World} (ha : Sl w0 5 RMsg va la) (hb : Sl w0 5 RMsg vb lb) : CV Tryz.prog 35 #[va, vb] w0 (.bool (decide (la = lb))) := by
  obtain ⟨aa, ca, rfl, hca, hma, hela⟩ := ha
  obtain ⟨ab, cb, rfl, hcb, hmb, helb⟩ := hb
  refine enter Tryz.func35 rfl Tryz.ntmps35 rfl ?_
  have hS := St.start w0
  refine seq ?_
  refine region ?_
  refine sv (yAsg rfl) ?_
  refine nil ?_
  show Code.wp _ _ _ _ _
  refine seq ?_
  refine seq ?_
  refine region ?_
  refine sv (yMove rfl) ?_
  refine sv (yLen rfl Tryz.underlying62) ?_
  refine sv (yMove rfl) ?_
  refine sv (yLen rfl Tryz.underlying62) ?_
  refine sv (yNeq rfl rfl) ?_
  refine nil ?_
  show Code.wp _ _ _ _ _
  refine cond rfl (fun c10 => ?_) (fun c10 => ?_)
  ·
    simp only [Bool.and_eq_true, Bool.or_eq_true, Bool.and_eq_false_iff, Bool.or_eq_false_iff, decide_eq_true_eq, decide_eq_false_iff_not, Bool.not_eq_true, Bool.not_eq_false, Bool.not_not, Bool.not_eq_eq_eq_not, Bool.not_true, Bool.not_false, Bool.false_eq_true, Bool.true_eq_false, ne_eq, Decidable.not_not, not_false_eq_true, not_true_eq_false] at c10
    refine seq ?_
    refine region ?_
    refine sv (yAsg rfl) ?_
    refine nil ?_
    show Code.wp _ _ _ _ _
    refine wp_ret (thenR ?_)
    exact retV (res1 rfl (eqB (by rw [decide_eq_false (fun h => by rw [h] at c10; exact c10 rfl)]))) hS.ext
  ·
    simp only [Bool.and_eq_true, Bool.or_eq_true, Bool.and_eq_false_iff, Bool.or_eq_false_iff, decide_eq_true_eq, decide_eq_false_iff_not, Bool.not_eq_true, Bool.not_eq_false, Bool.not_not, Bool.not_eq_eq_eq_not, Bool.not_true, Bool.not_false, Bool.false_eq_true, Bool.true_eq_false, ne_eq, Decidable.not_not, not_false_eq_true, not_true_eq_false] at c10
    refine skip ?_
    show Code.wp _ _ _ _ _
    refine seq ?_
    refine seq ?_
    refine region ?_
    refine sv (yAsg rfl) ?_
    refine nil ?_
    show Code.wp _ _ _ _ _
    refine block ?_
    refine loop (fun f w zz => ∃ (k : Nat), f 0 = .slice aa la.length ca ∧ f 1 = .slice ab lb.length cb ∧ f 5 = .int .i64 (k : Int) ∧ StX [] w0 w [] ∧ (k ≤ la.length) ∧ (∀ i, i < k → la[i]? = lb[i]?) ∧ zz = la.length - k) _ ⟨_, rfl, 0, rfl, rfl, rfl, hS, (Nat.zero_le _), (fun i hi => absurd hi (Nat.not_lt_zero i)), rfl⟩ ?_
    clear hS
    rintro f w _ ⟨k, h0, h1, h5, hS, hk, hI, rfl⟩
    refine seq ?_
    refine seq ?_
    refine region ?_
    refine sv (yMove h5) ?_
    refine sv (yMove h0) ?_
    refine sv (yLen rfl Tryz.underlying62) ?_
    refine sv (yLss rfl rfl) ?_
    refine nil ?_
    show Code.wp _ _ _ _ _
    refine cond rfl (fun c14 => ?_) (fun c14 => ?_)
    ·
      simp only [Bool.and_eq_true, Bool.or_eq_true, Bool.and_eq_false_iff, Bool.or_eq_false_iff, decide_eq_true_eq, decide_eq_false_iff_not, Bool.not_eq_true, Bool.not_eq_false, Bool.not_not, Bool.not_eq_eq_eq_not, Bool.not_true, Bool.not_false, Bool.false_eq_true, Bool.true_eq_false, ne_eq, Decidable.not_not, not_false_eq_true, not_true_eq_false] at c14
      obtain ⟨x, hx, hd⟩ := drop_of (l := la) (k := k) (by omega)
      obtain ⟨b, o, cs, ha, hlen, hcs, hR⟩ := hela (k) (by omega)
      obtain rfl : x = la[k] := (List.getElem?_eq_some_iff.1 hx).2.symm
      generalize la[k] = x at hx hd hR
      obtain ⟨rfl, _⟩ := hR
      obtain ⟨y, hxq, hdq⟩ := drop_of (l := lb) (k := k) (by omega)
      obtain ⟨bq, oq, csq, haq, hlenq, hcsq, hRq⟩ := helb (k) (by omega)
      obtain rfl : y = lb[k] := (List.getElem?_eq_some_iff.1 hxq).2.symm
      generalize lb[k] = y at hxq hdq hRq
      obtain ⟨rfl, _⟩ := hRq
      refine skip ?_
      show Code.wp _ _ _ _ _
      refine seq ?_
      refine block ?_
      refine seq ?_
      refine region_draw mixed (by kernel_rfl) hS ?_
      refine qv (fun w hS => (yMove h0)) ?_
      refine qv (fun w hS => (yMove h5)) ?_
      refine qv (fun w hS => (yIxa rfl ha rfl Tryz.runUnderlying62 Tryz.sizeOf70 (by omega) (by omega))) ?_
      refine qv (fun w hS => (yLdA rfl Tryz.isAgg70 Tryz.sizeOf70 (hcs.ext hS.ext) rfl)) ?_
      refine qv (fun w hS => (yMove h1)) ?_
      refine qv (fun w hS => (yMove h5)) ?_
      refine qv (fun w hS => (yIxa rfl haq rfl Tryz.runUnderlying62 Tryz.sizeOf70 (by omega) (by omega))) ?_
      refine qv (fun w hS => (yLdA rfl Tryz.isAgg70 Tryz.sizeOf70 (hcsq.ext hS.ext) rfl)) ?_
      refine qv (fun w hS => (neS70 rfl rfl)) ?_
      clear hS; refine qnil (fun w hS => ?_)
      show Code.wp _ _ _ _ _
      refine cond rfl (fun c25 => ?_) (fun c25 => ?_)
      ·
        have hne : x ≠ y := fun h => by subst h; simp [] at c25
        refine seq ?_
        refine region ?_
        refine sv (yAsg rfl) ?_
        refine nil ?_
        show Code.wp _ _ _ _ _
        refine wp_ret (blockR (thenR (thenR (blockR (thenR ?_)))))
        exact retV (res1 rfl (eqB (by rw [decide_eq_false (ne_of_get hx hxq hne)]))) hS.ext
      ·
        have hxy : x = y := by cases x; cases y; simpa [and_assoc] using c25
        refine skip ?_
        show Code.wp _ _ _ _ _
        refine region ?_
        refine sv (yMove h5) ?_
        refine sv (yAdd rfl rfl ⟨by omega, by omega⟩) ?_
        refine sv (yAsg rfl) ?_
        refine nil ?_
        exact ⟨_, _, rfl, ⟨k + 1, h0, h1, rfl, hS, (by omega), (snoc hI (by rw [hx, hxq, hxy])), rfl⟩, by omega⟩
    ·
      simp only [Bool.and_eq_true, Bool.or_eq_true, Bool.and_eq_false_iff, Bool.or_eq_false_iff, decide_eq_true_eq, decide_eq_false_iff_not, Bool.not_eq_true, Bool.not_eq_false, Bool.not_not, Bool.not_eq_eq_eq_not, Bool.not_true, Bool.not_false, Bool.false_eq_true, Bool.true_eq_false, ne_eq, Decidable.not_not, not_false_eq_true, not_true_eq_false] at c14
      refine exit ?_
      show Code.wp _ _ _ _ _
      refine seq ?_
      refine region ?_
      refine sv (yAsg rfl) ?_
      refine nil ?_
      show Code.wp _ _ _ _ _
      refine wp_ret ?_
      exact retV (res1 rfl (eqB (by rw [decide_eq_true (eq_of_get (by omega) (fun i hi => hI i (by omega)))]))) hS.ext
end Go.Proofs.YtmoilbakmlekbaaGreatDoor

/- part Aw18 -/
namespace Go.Proofs.YtmoilbakmlekbaaGreatDoor
open Go Bx
set_option maxHeartbeats 4000000 in
/-- barrage/barragelaw11.Awake -/
theorem c_Awake {w0 : World} (hg : Glb w0) : CV Tryz.prog 20 #[] w0 (.bool true) := by
  refine enter Tryz.func20 rfl Tryz.ntmps20 rfl ?_
  have hS := St.start w0
  refine seq ?_
  refine region ?_
  refine sv (yAsg rfl) ?_
  refine nil ?_
  show Code.wp _ _ _ _ _
  refine seq ?_
  refine region ?_
  refine scall Tryz.call42 .nil c_Task ?_
  rintro _ w ⟨hv1, nv1, fv1, rfl, hT1, hE⟩; replace hS := hS.step hE; clear hE
  refine scall Tryz.call18 (.cons rfl (.cons rfl .nil)) (c_Plan (hg.ext hS.ext) hT1) ?_
  rw [ex_plan]
  rintro _ w ⟨lv, rfl, hM⟩; replace hS := hS.call1 hM; clear hM
  replace hS : StX [] w0 w [rowI lv 38 3 3 ([exS1, exS2, exS3].flatMap slotC)] := hS
  obtain ⟨al, cl, rfl⟩ := row_shape (hS.row lv)
  obtain ⟨gl, rfl, -⟩ := row_get (hS.row (.slice al 3 cl)) (by decide)
  refine sv (yMove rfl) ?_
  refine sv (yExt rfl rfl) ?_
  refine sv (yExt rfl rfl) ?_
  refine sv (yAsg rfl) ?_
  refine sv (yAsg rfl) ?_
  refine nil ?_
  show Code.wp _ _ _ _ _
  refine seq ?_
  refine region ?_
  refine scall Tryz.call42 .nil c_Task ?_
  rintro _ w ⟨hv2, nv2, fv2, rfl, hT2, hE⟩; replace hS := hS.step hE; clear hE
  refine scall Tryz.call33 (.cons rfl (.cons rfl (.cons rfl .nil))) (c_Next (hg.ext hS.ext) hT2 (log := []) Sl.nil) ?_
  rw [ex_next]
  rintro _ w ⟨mv, rfl, hM⟩; replace hS := hS.call1 hM; clear hM
  replace hS : StX [] w0 w [rowI mv 70 5 exL.length (exL.flatMap msgC), rowI (.slice (some ⟨gl, 0, none⟩) 3 cl) 38 3 3 ([exS1, exS2, exS3].flatMap slotC)] := hS
  refine sv (yMove rfl) ?_
  refine sv (yExt rfl rfl) ?_
  refine sv (yExt rfl rfl) ?_
  refine sv (yAsg rfl) ?_
  refine sv (yAsg rfl) ?_
  refine nil ?_
  show Code.wp _ _ _ _ _
  refine seq ?_
  refine region ?_
  refine scall Tryz.call42 .nil c_Task ?_
  rintro _ w ⟨hv3, nv3, fv3, rfl, hT3, hE⟩; replace hS := hS.step hE; clear hE
  refine scall Tryz.call25 (.cons rfl (.cons rfl (.cons rfl .nil))) (c_Stage (hg.ext hS.ext) hT3 (i := 3) (now := 0)) ?_
  rw [ex_stage]
  rintro _ w ⟨rfl, hE⟩; replace hS := hS.step hE; clear hE
  refine sv (yMove rfl) ?_
  refine sv (yExt rfl rfl) ?_
  refine sv (yExt rfl rfl) ?_
  refine sv (yAsg rfl) ?_
  refine sv (yAsg rfl) ?_
  refine nil ?_
  show Code.wp _ _ _ _ _
  refine seq ?_
  refine region ?_
  refine sv (yMove rfl) ?_
  refine sv (yEql rfl rfl) ?_
  refine sv (yMove rfl) ?_
  refine ungo rfl rfl rfl ?_
  refine sv (yMove rfl) ?_
  refine ungo rfl rfl rfl ?_
  refine sv (yEql rfl rfl) ?_
  refine sv (yAnd rfl (fun hB => rfl) rfl) ?_
  refine sv (yMove rfl) ?_
  refine ungo rfl rfl rfl ?_
  refine sv (yMove rfl) ?_
  refine ungo rfl rfl rfl ?_
  refine sv (yEql rfl rfl) ?_
  refine sv (yAnd rfl (fun hB => rfl) rfl) ?_
  refine sv (yMove rfl) ?_
  refine ungo rfl rfl rfl ?_
  refine sv (yMove rfl) ?_
  refine ungo rfl rfl rfl ?_
  refine sv (yLen rfl Tryz.underlying27) ?_
  refine ungo rfl rfl rfl ?_
  refine sv (yEql rfl rfl) ?_
  refine sv (yAnd rfl (fun hB => rfl) rfl) ?_
  refine sv (yMove rfl) ?_
  refine ungo rfl rfl rfl ?_
  refine sv (yMove rfl) ?_
  refine ungo rfl rfl rfl ?_
  refine sv (yIx0 (m := 1) rfl rfl Tryz.runUnderlying27 Tryz.sizeOf38 (by decide)) ?_
  refine ungo rfl rfl rfl ?_
  refine sv (yLdA rfl Tryz.isAgg38 Tryz.sizeOf38 (flat_cells0 slotC_len (row_at (hS.row (.slice (some ⟨gl, 0, none⟩) 3 cl)) rfl (by decide)) (x := exS2) rfl) rfl) ?_
  refine ungo rfl rfl rfl ?_
  refine sv (yBuild Tryz.zeroValue38 rfl pl38 (.cons rfl rfl (.cons rfl rfl .nil)) rfl) ?_
  refine ungo rfl rfl rfl ?_
  refine sv (eqS38 rfl rfl) ?_
  refine sv (yAnd rfl (fun hB => rfl) rfl) ?_
  refine sv (yMove rfl) ?_
  refine ungo rfl rfl rfl ?_
  refine sv (yMove rfl) ?_
  refine ungo rfl rfl rfl ?_
  refine scall Tryz.call43 .nil c_Log ?_
  rintro v46 w ⟨hL, hE⟩; replace hS := hS.step hE; clear hE
  refine ungo rfl rfl rfl ?_
  refine scall Tryz.call35 (.cons rfl (.cons rfl .nil)) (c_Msgs (sl_msgs (hS.row mv) rfl (by decide)) hL) ?_
  rintro _ w ⟨rfl, hE⟩; replace hS := hS.step hE; clear hE
  refine sv (yAnd rfl (fun hB => rfl) rfl) ?_
  refine sv (yAsg rfl) ?_
  refine nil ?_
  show Code.wp _ _ _ _ _
  refine wp_ret ?_
  exact retV (res1 rfl rfl) hS.ext
end Go.Proofs.YtmoilbakmlekbaaGreatDoor

/- part A18 -/
namespace Bx
open Go Go.RowKit
/-- The messages, the last one first, with their places. -/
def bk (log : List Msg) : Nat → List (Int × Msg)
  | 0 => []
  | k + 1 => ((k : Int), log.getD k ⟨0, 0, 0, 0, 0⟩) :: bk log k
end Bx

/- part A20 -/
namespace Bx
open Go Go.RowKit
theorem chL_len (t : Task) : (chL t).length = t.chans.length := by simp [chL]
theorem chL_get {t : Task} {c : Nat} (h : c < t.chans.length) : (chL t)[c]? = some (c : Int) := by simp [chL, h]
theorem cnt_snoc (P : Pl) (c : Int) (A : List Int) (i : Int) : P.cnt c (A ++ [i]) = if c ∈ P.chans i then max (P.cnt c A) (P.latest i c - P.now + 1) else P.cnt c A := by
  unfold Pl.cnt; rw [List.foldl_append]; rfl
theorem cnt_bd {P : Pl} (h : ∀ i c, P.latest i c - P.now + 1 ≤ 200001) (c : Int) (A : List Int) : 0 ≤ P.cnt c A ∧ P.cnt c A ≤ 200001 := by
  refine ⟨cnt_nonneg P c A, ?_⟩
  by_cases h0 : 0 < P.cnt c A
  · obtain ⟨i, -, -, e⟩ := cnt_hit P h0
    have := h i c
    omega
  · omega
theorem plT_late (t : Task) {now : Int} (hn : 0 ≤ now) : ∀ i c, (plT t now).latest i c - (plT t now).now + 1 ≤ 200001 := fun i c => by
  show latestF t i c - now + 1 ≤ 200001
  unfold latestF
  omega
def slK (t : Task) (now : Int) (A : List Int) (k : Nat) : Int := (((chL t).take k).map fun c => (plT t now).cnt c A * (chn t c).room).sum
theorem slK_succ {t : Task} (now : Int) (A : List Int) {k : Nat} (h : k < t.chans.length) : slK t now A (k + 1) = slK t now A k + (plT t now).cnt (k : Int) A * (chn t (k : Int)).room := by
  unfold slK
  rw [take_snoc (chL_get h), List.map_append, List.sum_append]
  simp
theorem slK_end (t : Task) (now : Int) (A : List Int) : slK t now A t.chans.length = (plT t now).slots (chL t) A := by
  unfold slK Pl.slots
  rw [← chL_len, List.take_length]; rfl
theorem prod_bd {a b : Int} (ha : 0 ≤ a ∧ a ≤ 200001) (hb : 0 ≤ b ∧ b ≤ 20) : 0 ≤ a * b ∧ a * b ≤ 4000020 := by
  refine ⟨Int.mul_nonneg ha.1 hb.1, ?_⟩
  have := Int.mul_le_mul ha.2 hb.2 hb.1 (by decide)
  omega
theorem slK_bd {t : Task} (ht : TaskOk t) {now : Int} (hn : 0 ≤ now) (A : List Int) : ∀ k, k ≤ t.chans.length → 0 ≤ slK t now A k ∧ slK t now A k ≤ k * 4000020
  | 0, _ => ⟨Int.le_refl _, Int.le_refl _⟩
  | k + 1, h => by
    have h1 := slK_bd ht hn A k (by omega)
    have h2 := prod_bd (cnt_bd (plT_late t hn) (k : Int) A) (chan_ok ht (c := (k : Int)) ⟨by omega, by omega⟩).2
    rw [slK_succ now A (by omega)]
    push_cast
    omega
theorem ofE_of {t : Task} {i : Int} (h : (checkA t).2.2 = 0) (hi : 0 ≤ i ∧ i < t.towns.length) : ofE t i = 0 := by
  unfold ofE
  rw [if_neg (fun h' => h' h), if_neg (by rw [outB_false.2 (by omega)]; decide)]
theorem arrR_of {t : Task} {i : Int} (h : (checkA t).2.2 = 0) (hi : 0 ≤ i ∧ i < t.towns.length) : arrR t i = (arr t i, 0) := by
  unfold arrR
  rw [if_neg (fun h' => h' (ofE_of h hi))]
end Bx

/- part Aw23 -/
namespace Go.Proofs.YtmoilbakmlekbaaGreatDoor
open Go Bx
/-- barrage/barragelaw11.has -/
theorem c_has {l : List Int} {n : Int} {v : Value} {w0 : World} (hl : Sl w0 1 RInt v l) : CV Tryz.prog 21 #[v, .int .i64 n] w0 (.bool (decide (n ∈ l))) := by
  obtain ⟨a, cap, rfl, hcap, hmx, hel⟩ := hl
  refine enter Tryz.func21 rfl Tryz.ntmps21 rfl ?_
  have hS := St.start w0
  refine seq ?_
  refine region ?_
  refine sv (yAsg rfl) ?_
  refine nil ?_
  show Code.wp _ _ _ _ _
  refine seq ?_
  refine seq ?_
  refine region ?_
  refine sv (yAsg rfl) ?_
  refine nil ?_
  show Code.wp _ _ _ _ _
  refine block ?_
  refine loop (fun f w zz => ∃ (k : Nat), f 0 = .slice a l.length cap ∧ f 1 = .int .i64 n ∧ f 5 = .int .i64 (k : Int) ∧ StX [] w0 w [] ∧ (k ≤ l.length) ∧ (n ∈ l ↔ n ∈ l.drop k) ∧ zz = l.length - k) _ ⟨_, rfl, 0, rfl, rfl, rfl, hS, (Nat.zero_le _), (Iff.rfl), rfl⟩ ?_
  clear hS
  rintro f w _ ⟨k, h0, h1, h5, hS, hk, hI, rfl⟩
  refine seq ?_
  refine seq ?_
  refine region ?_
  refine sv (yMove h5) ?_
  refine sv (yMove h0) ?_
  refine sv (yLen rfl Tryz.underlying34) ?_
  refine sv (yLss rfl rfl) ?_
  refine nil ?_
  show Code.wp _ _ _ _ _
  refine cond rfl (fun c9 => ?_) (fun c9 => ?_)
  ·
    simp only [Bool.and_eq_true, Bool.or_eq_true, Bool.and_eq_false_iff, Bool.or_eq_false_iff, decide_eq_true_eq, decide_eq_false_iff_not, Bool.not_eq_true, Bool.not_eq_false, Bool.not_not, Bool.not_eq_eq_eq_not, Bool.not_true, Bool.not_false, Bool.false_eq_true, Bool.true_eq_false, ne_eq, Decidable.not_not, not_false_eq_true, not_true_eq_false] at c9
    obtain ⟨x, hxx, hdx⟩ := drop_of (l := l) (k := k) (by omega)
    obtain ⟨bx, ox, csx, hax, hlenx, hcsx, hRx⟩ := hel (k) (by omega)
    obtain rfl : x = l[k] := (List.getElem?_eq_some_iff.1 hxx).2.symm
    generalize l[k] = x at hxx hdx hRx
    obtain ⟨rfl, -⟩ := hRx
    refine skip ?_
    show Code.wp _ _ _ _ _
    refine seq ?_
    refine block ?_
    refine seq ?_
    refine region ?_
    refine sv (yMove h0) ?_
    refine sv (yMove h5) ?_
    refine sv (yIxa rfl hax rfl Tryz.runUnderlying34 Tryz.sizeOf3 (by omega) (by omega)) ?_
    refine sv (yLd rfl Tryz.isAgg3 ((hcsx.ext hS.ext).one)) ?_
    refine sv (yMove h1) ?_
    refine sv (yEql rfl rfl) ?_
    refine nil ?_
    show Code.wp _ _ _ _ _
    refine cond rfl (fun c17 => ?_) (fun c17 => ?_)
    ·
      simp only [Bool.and_eq_true, Bool.or_eq_true, Bool.and_eq_false_iff, Bool.or_eq_false_iff, decide_eq_true_eq, decide_eq_false_iff_not, Bool.not_eq_true, Bool.not_eq_false, Bool.not_not, Bool.not_eq_eq_eq_not, Bool.not_true, Bool.not_false, Bool.false_eq_true, Bool.true_eq_false, ne_eq, Decidable.not_not, not_false_eq_true, not_true_eq_false] at c17
      refine seq ?_
      refine region ?_
      refine sv (yAsg rfl) ?_
      refine nil ?_
      show Code.wp _ _ _ _ _
      refine wp_ret (blockR (thenR (thenR (blockR (thenR ?_)))))
      exact retV (res1 rfl (eqB (decide_eq_true (by rw [hI, hdx, c17]; exact List.mem_cons_self ..)))) hS.ext
    ·
      simp only [Bool.and_eq_true, Bool.or_eq_true, Bool.and_eq_false_iff, Bool.or_eq_false_iff, decide_eq_true_eq, decide_eq_false_iff_not, Bool.not_eq_true, Bool.not_eq_false, Bool.not_not, Bool.not_eq_eq_eq_not, Bool.not_true, Bool.not_false, Bool.false_eq_true, Bool.true_eq_false, ne_eq, Decidable.not_not, not_false_eq_true, not_true_eq_false] at c17
      refine skip ?_
      show Code.wp _ _ _ _ _
      refine region ?_
      refine sv (yMove h5) ?_
      refine sv (yAdd rfl rfl ⟨by omega, by omega⟩) ?_
      refine sv (yAsg rfl) ?_
      refine nil ?_
      exact ⟨_, _, rfl, ⟨k + 1, h0, h1, rfl, hS, (by omega), (by rw [hI, hdx, List.mem_cons]; exact ⟨fun h => h.resolve_left (fun e => c17 e.symm), .inr⟩), rfl⟩, by omega⟩
  ·
    simp only [Bool.and_eq_true, Bool.or_eq_true, Bool.and_eq_false_iff, Bool.or_eq_false_iff, decide_eq_true_eq, decide_eq_false_iff_not, Bool.not_eq_true, Bool.not_eq_false, Bool.not_not, Bool.not_eq_eq_eq_not, Bool.not_true, Bool.not_false, Bool.false_eq_true, Bool.true_eq_false, ne_eq, Decidable.not_not, not_false_eq_true, not_true_eq_false] at c9
    obtain rfl : k = l.length := by omega
    refine exit ?_
    show Code.wp _ _ _ _ _
    refine seq ?_
    refine region ?_
    refine sv (yAsg rfl) ?_
    refine nil ?_
    show Code.wp _ _ _ _ _
    refine wp_ret ?_
    exact retV (res1 rfl (eqB (decide_eq_false (by rw [hI, List.drop_length]; simp)))) hS.ext
end Go.Proofs.YtmoilbakmlekbaaGreatDoor

/- part Aw24 -/
namespace Go.Proofs.YtmoilbakmlekbaaGreatDoor
open Go Bx
set_option maxHeartbeats 2000000 in
/-- barrage/barragelaw11.slots -/
theorem c_slotsL {t : Task} {hv nv fv : Value} {now : Int} {A : List Int} {va : Value} {w0 : World} (hg : Glb w0) (h : RTask w0 [.int .i64 t.polders, hv, nv, fv] t) (hck : (checkA t).2.2 = 0) (hn : 0 ≤ now ∧ now ≤ 200000) (hA : Sl w0 1 RInt va A) (hAm : ∀ i ∈ A, 0 ≤ i ∧ i < t.towns.length) : CV Tryz.prog 27 #[.agg [.int .i64 t.polders, hv, nv, fv].toArray, .int .i64 now, va] w0 (.int .i64 ((plT t now).slots (chL t) A)) := by
  obtain ⟨hv', nv', fv', he0, hpol, hsh, hsn, hsf⟩ := id h
  obtain ⟨rfl, rfl, rfl⟩ : hv' = hv ∧ nv' = nv ∧ fv' = fv := by simpa [eq_comm] using he0
  obtain ⟨a1, cap1, rfl, hcap1, hmx1, hel1⟩ := id hsh
  obtain ⟨a2, cap2, rfl, hcap2, hmx2, hel2⟩ := id hsn
  obtain ⟨a3, cap3, rfl, hcap3, hmx3, hel3⟩ := id hsf
  obtain ⟨av, cv, rfl, hcapv, hmxv, helv⟩ := id hA
  have hok := task_ok hck
  have hn8 := hok.ntw
  have hc4 := hok.nch
  have s1 := hsh
  have s2 := hsn
  refine enter Tryz.func27 rfl Tryz.ntmps27 rfl ?_
  have hS := St.start w0
  refine seq ?_
  refine region ?_
  refine sbox hS rfl rfl ?_; clear hS; intro b3 w hS
  refine sv (yAsg rfl) ?_
  refine nil ?_
  show Code.wp _ _ _ _ _
  refine seq ?_
  refine region ?_
  refine sv (yAsg rfl) ?_
  refine nil ?_
  show Code.wp _ _ _ _ _
  refine seq ?_
  refine seq ?_
  refine region ?_
  refine sv (yAsg rfl) ?_
  refine nil ?_
  show Code.wp _ _ _ _ _
  refine block ?_
  refine loop (fun f w zz => ∃ (c : Nat), f 1 = .int .i64 now ∧ f 2 = .slice av A.length cv ∧ f 3 = .pointer (some ⟨b3, 0, none⟩) ∧ f 7 = .int .i64 (slK t now A c) ∧ f 8 = .int .i64 (c : Int) ∧ StX [] w0 w [blk b3 [.int .i64 t.polders, .slice a1 t.chans.length cap1, .slice a2 t.towns.length cap2, .slice a3 t.floods.length cap3] 26] ∧ (c ≤ t.chans.length) ∧ zz = t.chans.length - c) _ ⟨_, rfl, 0, rfl, rfl, rfl, rfl, rfl, hS, (Nat.zero_le _), rfl⟩ ?_
  clear hS
  rintro f w _ ⟨c, h1, h2, h3, h7, h8, hS, hc, rfl⟩
  refine seq ?_
  refine seq ?_
  refine region ?_
  refine sv (yMove h8) ?_
  refine sv (fa26_1 h3) ?_
  refine sv (yLdB rfl Tryz.isAgg22 (hS.at _) rfl) ?_
  refine sv (yLen rfl Tryz.underlying22) ?_
  refine sv (yLss rfl rfl) ?_
  refine nil ?_
  show Code.wp _ _ _ _ _
  refine cond rfl (fun c19 => ?_) (fun c19 => ?_)
  ·
    simp only [Bool.and_eq_true, Bool.or_eq_true, Bool.and_eq_false_iff, Bool.or_eq_false_iff, decide_eq_true_eq, decide_eq_false_iff_not, Bool.not_eq_true, Bool.not_eq_false, Bool.not_not, Bool.not_eq_eq_eq_not, Bool.not_true, Bool.not_false, Bool.false_eq_true, Bool.true_eq_false, ne_eq, Decidable.not_not, not_false_eq_true, not_true_eq_false] at c19
    have hcl : c < t.chans.length := by omega
    have hcb : 0 ≤ (c : Int) ∧ (c : Int) < t.chans.length := by omega
    have hsb := slK_bd hok hn.1 A c hc
    obtain ⟨bc, oc, csc, hac, hlc, hcsc, hRc, -⟩ := sl_at s1 (chn_i (t := t) hcb)
    obtain ⟨rfl, -⟩ := hRc
    have hco := chan_ok hok hcb
    refine skip ?_
    show Code.wp _ _ _ _ _
    refine seq ?_
    refine block ?_
    refine seq ?_
    refine region ?_
    refine sv (yAsg rfl) ?_
    refine nil ?_
    show Code.wp _ _ _ _ _
    refine seq ?_
    refine seq ?_
    refine region ?_
    refine sv (yAsg rfl) ?_
    refine nil ?_
    show Code.wp _ _ _ _ _
    refine block ?_
    refine loop (fun f w zz => ∃ (k : Nat), f 1 = .int .i64 now ∧ f 2 = .slice av A.length cv ∧ f 3 = .pointer (some ⟨b3, 0, none⟩) ∧ f 7 = .int .i64 (slK t now A c) ∧ f 8 = .int .i64 (c : Int) ∧ f 9 = .int .i64 ((plT t now).cnt (c : Int) (A.take k)) ∧ f 10 = .int .i64 (k : Int) ∧ StX [] w0 w [blk b3 [.int .i64 t.polders, .slice a1 t.chans.length cap1, .slice a2 t.towns.length cap2, .slice a3 t.floods.length cap3] 26] ∧ (k ≤ A.length) ∧ zz = A.length - k) _ ⟨_, rfl, 0, h1, h2, h3, h7, h8, rfl, rfl, hS, (Nat.zero_le _), rfl⟩ ?_
    clear hS
    rintro f w _ ⟨k, h1, h2, h3, h7, h8, h9, h10, hS, hk, rfl⟩
    refine seq ?_
    refine seq ?_
    refine region ?_
    refine sv (yMove h10) ?_
    refine sv (yMove h2) ?_
    refine sv (yLen rfl Tryz.underlying34) ?_
    refine sv (yLss rfl rfl) ?_
    refine nil ?_
    show Code.wp _ _ _ _ _
    refine cond rfl (fun c25 => ?_) (fun c25 => ?_)
    ·
      simp only [Bool.and_eq_true, Bool.or_eq_true, Bool.and_eq_false_iff, Bool.or_eq_false_iff, decide_eq_true_eq, decide_eq_false_iff_not, Bool.not_eq_true, Bool.not_eq_false, Bool.not_not, Bool.not_eq_eq_eq_not, Bool.not_true, Bool.not_false, Bool.false_eq_true, Bool.true_eq_false, ne_eq, Decidable.not_not, not_false_eq_true, not_true_eq_false] at c25
      obtain ⟨i, hxv, hdv⟩ := drop_of (l := A) (k := k) (by omega)
      obtain ⟨bv, ov, csv, hav, hlenv, hcsv, hRv⟩ := helv (k) (by omega)
      obtain rfl : i = A[k] := (List.getElem?_eq_some_iff.1 hxv).2.symm
      generalize A[k] = i at hxv hdv hRv
      obtain ⟨rfl, hiI⟩ := hRv
      have hib := hAm i (List.mem_of_getElem? hxv)
      obtain ⟨bt, ot, cst, hat, hlt, hcst, hRt, -⟩ := sl_at s2 (twn_i (t := t) hib)
      obtain ⟨dvt, rfl, -, -, -, -, hslt, -⟩ := hRt
      have hto := town_ok hok hib
      have htl := hto.lead
      have hab := arr_bd hok hib
      have hcn := cnt_bd (plT_late t hn.1) (c : Int) (A.take k)
      have hdel := hco.1
      refine skip ?_
      show Code.wp _ _ _ _ _
      refine seq ?_
      refine block ?_
      refine seq ?_
      refine seq ?_
      refine region_draw mixed (by kernel_rfl) hS ?_
      refine qv (fun w hS => (yMove h2)) ?_
      refine qv (fun w hS => (yMove h10)) ?_
      refine qv (fun w hS => (yIxa rfl hav rfl Tryz.runUnderlying34 Tryz.sizeOf3 (by omega) (by omega))) ?_
      refine qv (fun w hS => (yLd rfl Tryz.isAgg3 ((hcsv.ext hS.ext).one))) ?_
      refine qv (fun w hS => (yLss rfl rfl)) ?_
      refine qv (fun w hS => (yMove rfl)) ?_
      refine qg rfl rfl rfl (fun g w hS => (yMove h2)) (fun v34 g34 => ?_)
      refine qg rfl rfl rfl (fun g w hS => (yMove h10)) (fun v35 g35 => ?_)
      refine qg rfl rfl rfl (fun g w hS => (yIxa (g34.1 g) hav (g35.1 g) Tryz.runUnderlying34 Tryz.sizeOf3 (by omega) (by omega))) (fun v36 g36 => ?_)
      refine qg rfl rfl rfl (fun g w hS => (yLd (g36.1 g) Tryz.isAgg3 ((hcsv.ext hS.ext).one))) (fun v37 g37 => ?_)
      refine qg rfl rfl rfl (fun g w hS => (fa26_2 h3)) (fun v38 g38 => ?_)
      refine qg rfl rfl rfl (fun g w hS => (yLdB (g38.1 g) Tryz.isAgg23 (hS.at _) rfl)) (fun v39 g39 => ?_)
      refine qg rfl rfl rfl (fun g w hS => (yLen (g39.1 g) Tryz.underlying23)) (fun v40 g40 => ?_)
      refine qg rfl rfl rfl (fun g w hS => (yGeq (g37.1 g) (g40.1 g))) (fun v41 g41 => ?_)
      refine qv (fun w hS => (yOr rfl rfl (fun hB => (g41.1 hB)))) ?_
      refine qv (fun w hS => (yMove rfl)) ?_
      refine qg rfl rfl rfl (fun g w hS => (fa26_2 h3)) (fun v44 g44 => ?_)
      refine qg rfl rfl rfl (fun g w hS => (yLdB (g44.1 g) Tryz.isAgg23 (hS.at _) rfl)) (fun v45 g45 => ?_)
      refine qg rfl rfl rfl (fun g w hS => (yMove h2)) (fun v46 g46 => ?_)
      refine qg rfl rfl rfl (fun g w hS => (yMove h10)) (fun v47 g47 => ?_)
      refine qg rfl rfl rfl (fun g w hS => (yIxa (g46.1 g) hav (g47.1 g) Tryz.runUnderlying34 Tryz.sizeOf3 (by omega) (by omega))) (fun v48 g48 => ?_)
      refine qg rfl rfl rfl (fun g w hS => (yLd (g48.1 g) Tryz.isAgg3 ((hcsv.ext hS.ext).one))) (fun v49 g49 => ?_)
      refine qg rfl rfl rfl (fun g w hS => (yIxa (g45.1 g) hat (g49.1 g) Tryz.runUnderlying23 Tryz.sizeOf36 (by omega) (by omega))) (fun v50 g50 => ?_)
      refine qg rfl rfl rfl (fun g w hS => (fa36_4 (g50.1 g))) (fun v51 g51 => ?_)
      refine qg rfl rfl rfl (fun g w hS => (yLd (g51.1 g) Tryz.isAgg34 ((hcst.ext hS.ext).at (j := 4) rfl))) (fun v52 g52 => ?_)
      refine qg rfl rfl rfl (fun g w hS => (yMove h8)) (fun v53 g53 => ?_)
      refine qgc rfl rfl rfl Tryz.call21 (fun g => (.cons (g52.1 g) (.cons (g53.1 g) .nil))) (fun g w hS => (c_has (hslt.ext RInt.stays hS.ext))) (fun v54 g54 => ?_)
      refine qg rfl rfl rfl (fun g w hS => (yNot (g54.1 g))) (fun v55 g55 => ?_)
      refine qv (fun w hS => (yOr rfl rfl (fun hB => (g55.1 hB)))) ?_
      clear hS; refine qnil (fun w hS => ?_)
      show Code.wp _ _ _ _ _
      refine cond rfl (fun c56 => ?_) (fun c56 => ?_)
      ·
        have hout : ¬ (c : Int) ∈ (plT t now).chans i := fun hm => by
          have hb : ((decide (i < 0) || decide ((t.towns.length : Int) ≤ i)) || !decide ((c : Int) ∈ (twn t i).chans)) = true := c56
          rw [decide_eq_false (show ¬ i < 0 by omega), decide_eq_false (show ¬ (t.towns.length : Int) ≤ i by omega), decide_eq_true (show (c : Int) ∈ (twn t i).chans from hm)] at hb
          cases hb
        refine exit ?_
        show Code.wp _ _ _ _ _
        refine region ?_
        refine sv (yMove h10) ?_
        refine sv (yAdd rfl rfl ⟨by omega, by omega⟩) ?_
        refine sv (yAsg rfl) ?_
        refine nil ?_
        exact ⟨_, _, rfl, ⟨k + 1, h1, h2, h3, h7, h8, (h9.trans (congrArg (Value.int .i64) (by rw [take_snoc hxv, cnt_snoc, if_neg hout]))), rfl, hS, (by omega), rfl⟩, by omega⟩
      ·
        have hin : (c : Int) ∈ (plT t now).chans i := by
          have hb : ((decide (i < 0) || decide ((t.towns.length : Int) ≤ i)) || !decide ((c : Int) ∈ (twn t i).chans)) = false := c56
          rw [Bool.or_eq_false_iff] at hb
          have h2 := hb.2
          exact (show (c : Int) ∈ (twn t i).chans by simpa using h2)
        have hlt : max ((plT t now).cnt (c : Int) (A.take k)) ((plT t now).latest i (c : Int) - (plT t now).now + 1) = max ((plT t now).cnt (c : Int) (A.take k)) (min 200000 ((arr t i).1.lo - (twn t i).lead - (chn t (c : Int)).delay) - now + 1) := rfl
        refine skip ?_
        show Code.wp _ _ _ _ _
        refine seqJ (n := 104) (fun f w => ∃ (b11 : Nat), f 1 = .int .i64 now ∧ f 2 = .slice av A.length cv ∧ f 3 = .pointer (some ⟨b3, 0, none⟩) ∧ f 7 = .int .i64 (slK t now A c) ∧ f 8 = .int .i64 (c : Int) ∧ f 9 = .int .i64 ((plT t now).cnt (c : Int) (A.take k)) ∧ f 10 = .int .i64 (k : Int) ∧ f 11 = .pointer (some ⟨b11, 0, none⟩) ∧ StX [] w0 w [blk b11 [.int .i64 (arr t i).1.lo, .int .i64 (arr t i).1.hi] 44, blk b3 [.int .i64 t.polders, .slice a1 t.chans.length cap1, .slice a2 t.towns.length cap2, .slice a3 t.floods.length cap3] 26] ∧ True) ?_ ?_
        ·
          refine region_mix (fun w => StX [] w0 w [blk b3 [.int .i64 t.polders, .slice a1 t.chans.length cap1, .slice a2 t.towns.length cap2, .slice a3 t.floods.length cap3] 26]) 14 mixed hS ?_
          clear hS; intro w hS
          refine f_step 0 (by kernel_rfl) rfl (fun c a a' w h => by obtain ⟨_, v, hv, _⟩ := h; cases hv) (by first | exact hS | exact hS.sub (.cons _ (List.Sublist.refl _))) (fun w hS => (yLdBA h3 Tryz.isAgg26 Tryz.sizeOf26 (hS.at _) rfl rfl)) ?_
          refine f_step 1 (by kernel_rfl) rfl (fun c a a' w h => by obtain ⟨_, v, hv, _⟩ := h; cases hv) (by first | exact hS | exact hS.sub (.cons _ (List.Sublist.refl _))) (fun w hS => (yMove h2)) ?_
          refine f_step 2 (by kernel_rfl) rfl (fun c a a' w h => by obtain ⟨_, v, hv, _⟩ := h; cases hv) (by first | exact hS | exact hS.sub (.cons _ (List.Sublist.refl _))) (fun w hS => (yMove h10)) ?_
          refine f_step 3 (by kernel_rfl) rfl (fun c a a' w h => by obtain ⟨_, v, hv, _⟩ := h; cases hv) (by first | exact hS | exact hS.sub (.cons _ (List.Sublist.refl _))) (fun w hS => (yIxa rfl hav rfl Tryz.runUnderlying34 Tryz.sizeOf3 (by omega) (by omega))) ?_
          refine f_step 4 (by kernel_rfl) rfl (fun c a a' w h => by obtain ⟨_, v, hv, _⟩ := h; cases hv) (by first | exact hS | exact hS.sub (.cons _ (List.Sublist.refl _))) (fun w hS => (yLd rfl Tryz.isAgg3 ((hcsv.ext hS.ext).one))) ?_
          show wpA _ _ _ _ _ _ _ _ _ _
          refine a_step (i := 5) (is := [10]) (by kernel_rfl) ⟨?_, ?_, trivial⟩
          ·
            refine ⟨_, rfl, ?_⟩
            refine scall Tryz.call23 (.cons rfl (.cons rfl .nil)) (c_Arrival (hg.ext hS.ext) (h.ext hS.ext)) ?_
            rw [arrR_of hck hib]
            rintro _ w ⟨rfl, hE⟩; replace hS := hS.step hE; clear hE
            refine nil ?_
            refine ⟨fun _ => (by first | exact hS | exact hS.sub (.cons _ (List.Sublist.refl _))), ?_⟩
            show wpA _ _ _ _ _ _ _ _ _ _
            refine f_step 6 (by kernel_rfl) rfl (fun c a a' w h => by obtain ⟨_, v, hv, _⟩ := h; cases hv) (by first | exact hS | exact hS.sub (.cons _ (List.Sublist.refl _))) (fun w hS => (yMove rfl)) ?_
            refine f_step 7 (by kernel_rfl) rfl (fun c a a' w h => by obtain ⟨_, v, hv, _⟩ := h; cases hv) (by first | exact hS | exact hS.sub (.cons _ (List.Sublist.refl _))) (fun w hS => (yExt rfl rfl)) ?_
            refine f_step 8 (by kernel_rfl) rfl (fun c a a' w h => by obtain ⟨_, v, hv, _⟩ := h; cases hv) (by first | exact hS | exact hS.sub (.cons _ (List.Sublist.refl _))) (fun w hS => (yExt rfl rfl)) ?_
            refine f_step 9 (by kernel_rfl) rfl (fun c a a' w h => by obtain ⟨_, v, hv, _⟩ := h; cases hv) (by first | exact hS | exact hS.sub (.cons _ (List.Sublist.refl _))) (fun w hS => (yExt rfl rfl)) ?_
            show wpA _ _ _ _ _ _ _ _ _ _
            refine a_step (i := 10) (is := []) (by kernel_rfl) ⟨?_, trivial⟩
            refine ⟨_, rfl, ?_⟩
            refine salloc hS Tryz.zeroValue44 rfl ?_; clear hS; intro b11 w hS
            refine nil ?_
            refine ⟨fun _ => (by first | exact hS | exact hS.sub (.cons _ (List.Sublist.refl _))), ?_⟩
            show wpA _ _ _ _ _ _ _ _ _ _
            show wpA _ _ _ _ _ _ _ _ _ _
            refine a_step (i := 11) (is := []) (by kernel_rfl) ⟨?_, trivial⟩
            refine ⟨_, rfl, ?_⟩
            refine sst hS rfl rfl Tryz.sizeOf44 rfl rfl rfl rfl ?_; clear hS; intro w hS
            refine nil ?_
            refine ⟨fun _ => (by first | exact hS | exact hS.sub (.cons _ (List.Sublist.refl _))), ?_⟩
            show wpA _ _ _ _ _ _ _ _ _ _
            refine f_step 12 (by kernel_rfl) rfl (fun c a a' w h => by obtain ⟨_, v, hv, _⟩ := h; cases hv) (by first | exact hS | exact hS.sub (.cons _ (List.Sublist.refl _))) (fun w hS => (yAsg rfl)) ?_
            refine f_step 13 (by kernel_rfl) rfl (fun c a a' w h => by obtain ⟨_, v, hv, _⟩ := h; cases hv) (by first | exact hS | exact hS.sub (.cons _ (List.Sublist.refl _))) (fun w hS => (yAsg rfl)) ?_
            refine a_end (by kernel_rfl) ?_
            exact ⟨_, rfl, b11, h1, h2, h3, h7, h8, h9, h10, rfl, hS, trivial⟩
          ·
            refine ⟨_, rfl, ?_⟩
            refine salloc hS Tryz.zeroValue44 rfl ?_; clear hS; intro b11 w hS
            refine nil ?_
            refine ⟨fun _ => (by first | exact hS | exact hS.sub (.cons _ (List.Sublist.refl _))), ?_⟩
            show wpA _ _ _ _ _ _ _ _ _ _
            show wpA _ _ _ _ _ _ _ _ _ _
            refine a_step (i := 5) (is := []) (by kernel_rfl) ⟨?_, trivial⟩
            refine ⟨_, rfl, ?_⟩
            refine scall Tryz.call23 (.cons rfl (.cons rfl .nil)) (c_Arrival (hg.ext hS.ext) (h.ext hS.ext)) ?_
            rw [arrR_of hck hib]
            rintro _ w ⟨rfl, hE⟩; replace hS := hS.step hE; clear hE
            refine nil ?_
            refine ⟨fun _ => (by first | exact hS | exact hS.sub (.cons _ (List.Sublist.refl _))), ?_⟩
            show wpA _ _ _ _ _ _ _ _ _ _
            refine f_step 6 (by kernel_rfl) rfl (fun c a a' w h => by obtain ⟨_, v, hv, _⟩ := h; cases hv) (by first | exact hS | exact hS.sub (.cons _ (List.Sublist.refl _))) (fun w hS => (yMove rfl)) ?_
            refine f_step 7 (by kernel_rfl) rfl (fun c a a' w h => by obtain ⟨_, v, hv, _⟩ := h; cases hv) (by first | exact hS | exact hS.sub (.cons _ (List.Sublist.refl _))) (fun w hS => (yExt rfl rfl)) ?_
            refine f_step 8 (by kernel_rfl) rfl (fun c a a' w h => by obtain ⟨_, v, hv, _⟩ := h; cases hv) (by first | exact hS | exact hS.sub (.cons _ (List.Sublist.refl _))) (fun w hS => (yExt rfl rfl)) ?_
            refine f_step 9 (by kernel_rfl) rfl (fun c a a' w h => by obtain ⟨_, v, hv, _⟩ := h; cases hv) (by first | exact hS | exact hS.sub (.cons _ (List.Sublist.refl _))) (fun w hS => (yExt rfl rfl)) ?_
            show wpA _ _ _ _ _ _ _ _ _ _
            refine a_step (i := 11) (is := []) (by kernel_rfl) ⟨?_, trivial⟩
            refine ⟨_, rfl, ?_⟩
            refine sst hS rfl rfl Tryz.sizeOf44 rfl rfl rfl rfl ?_; clear hS; intro w hS
            refine nil ?_
            refine ⟨fun _ => (by first | exact hS | exact hS.sub (.cons _ (List.Sublist.refl _))), ?_⟩
            show wpA _ _ _ _ _ _ _ _ _ _
            refine f_step 12 (by kernel_rfl) rfl (fun c a a' w h => by obtain ⟨_, v, hv, _⟩ := h; cases hv) (by first | exact hS | exact hS.sub (.cons _ (List.Sublist.refl _))) (fun w hS => (yAsg rfl)) ?_
            refine f_step 13 (by kernel_rfl) rfl (fun c a a' w h => by obtain ⟨_, v, hv, _⟩ := h; cases hv) (by first | exact hS | exact hS.sub (.cons _ (List.Sublist.refl _))) (fun w hS => (yAsg rfl)) ?_
            refine a_end (by kernel_rfl) ?_
            exact ⟨_, rfl, b11, h1, h2, h3, h7, h8, h9, h10, rfl, hS, trivial⟩
        ·
          clear hS; rintro f w ⟨b11, h1, h2, h3, h7, h8, h9, h10, h11, hS, -⟩
          refine seq ?_
          refine region_draw mixed (by kernel_rfl) hS ?_
          refine qv (fun w hS => (fa44_0 h11)) ?_
          refine qv (fun w hS => (yLdB rfl Tryz.isAgg3 (hS.at _) rfl)) ?_
          refine qv (fun w hS => (fa26_2 h3)) ?_
          refine qv (fun w hS => (yLdB rfl Tryz.isAgg23 (hS.at _) rfl)) ?_
          refine qv (fun w hS => (yMove h2)) ?_
          refine qv (fun w hS => (yMove h10)) ?_
          refine qv (fun w hS => (yIxa rfl hav rfl Tryz.runUnderlying34 Tryz.sizeOf3 (by omega) (by omega))) ?_
          refine qv (fun w hS => (yLd rfl Tryz.isAgg3 ((hcsv.ext hS.ext).one))) ?_
          refine qv (fun w hS => (yIxa rfl hat rfl Tryz.runUnderlying23 Tryz.sizeOf36 (by omega) (by omega))) ?_
          refine qv (fun w hS => (fa36_3 rfl)) ?_
          refine qv (fun w hS => (yLd rfl Tryz.isAgg3 ((hcst.ext hS.ext).at (j := 3) rfl))) ?_
          refine qv (fun w hS => (ySub rfl rfl ⟨by omega, by omega⟩)) ?_
          refine qv (fun w hS => (fa26_1 h3)) ?_
          refine qv (fun w hS => (yLdB rfl Tryz.isAgg22 (hS.at _) rfl)) ?_
          refine qv (fun w hS => (yMove h8)) ?_
          refine qv (fun w hS => (yIxa rfl hac rfl Tryz.runUnderlying22 Tryz.sizeOf41 (by omega) (by omega))) ?_
          refine qv (fun w hS => (fa41_1 rfl)) ?_
          refine qv (fun w hS => (yLd rfl Tryz.isAgg3 ((hcsc.ext hS.ext).at (j := 1) rfl))) ?_
          refine qv (fun w hS => (ySub rfl rfl ⟨by omega, by omega⟩)) ?_
          refine qv (fun w hS => (yMin rfl rfl)) ?_
          refine qv (fun w hS => (yAsg rfl)) ?_
          clear hS; refine qnil (fun w hS => ?_)
          show Code.wp _ _ _ _ _
          refine region ?_
          refine sv (yMove h9) ?_
          refine sv (yMove rfl) ?_
          refine sv (yMove h1) ?_
          refine sv (ySub rfl rfl ⟨by omega, by omega⟩) ?_
          refine sv (yAdd rfl rfl ⟨by omega, by omega⟩) ?_
          refine sv (yMax rfl rfl) ?_
          refine sv (yAsg rfl) ?_
          refine nil ?_
          show Code.wp _ _ _ _ _
          refine region ?_
          refine sv (yMove h10) ?_
          refine sv (yAdd rfl rfl ⟨by omega, by omega⟩) ?_
          refine sv (yAsg rfl) ?_
          refine nil ?_
          exact ⟨_, _, rfl, ⟨k + 1, h1, h2, h3, h7, h8, (rfl.trans (congrArg (Value.int .i64) (by rw [take_snoc hxv, cnt_snoc, if_pos hin, hlt]))), rfl, (hS.sub (.cons _ (List.Sublist.refl _))), (by omega), rfl⟩, by omega⟩
    ·
      simp only [Bool.and_eq_true, Bool.or_eq_true, Bool.and_eq_false_iff, Bool.or_eq_false_iff, decide_eq_true_eq, decide_eq_false_iff_not, Bool.not_eq_true, Bool.not_eq_false, Bool.not_not, Bool.not_eq_eq_eq_not, Bool.not_true, Bool.not_false, Bool.false_eq_true, Bool.true_eq_false, ne_eq, Decidable.not_not, not_false_eq_true, not_true_eq_false] at c25
      obtain rfl : k = A.length := by omega
      rw [List.take_length] at h9
      have hcn := cnt_bd (plT_late t hn.1) (c : Int) A
      have hpr := prod_bd hcn hco.2
      refine exit ?_
      show Code.wp _ _ _ _ _
      refine region ?_
      refine sv (yMove h7) ?_
      refine sv (yMove h9) ?_
      refine sv (fa26_1 h3) ?_
      refine sv (yLdB rfl Tryz.isAgg22 (hS.at _) rfl) ?_
      refine sv (yMove h8) ?_
      refine sv (yIxa rfl hac rfl Tryz.runUnderlying22 Tryz.sizeOf41 (by omega) (by omega)) ?_
      refine sv (fa41_2 rfl) ?_
      refine sv (yLd rfl Tryz.isAgg3 ((hcsc.ext hS.ext).at (j := 2) rfl)) ?_
      refine sv (yMul rfl rfl ⟨by omega, by omega⟩) ?_
      refine sv (yAdd rfl rfl ⟨by omega, by omega⟩) ?_
      refine sv (yAsg rfl) ?_
      refine nil ?_
      show Code.wp _ _ _ _ _
      refine region ?_
      refine sv (yMove h8) ?_
      refine sv (yAdd rfl rfl ⟨by omega, by omega⟩) ?_
      refine sv (yAsg rfl) ?_
      refine nil ?_
      exact ⟨_, _, rfl, ⟨c + 1, h1, h2, h3, (rfl.trans (congrArg (Value.int .i64) (slK_succ now A hcl).symm)), rfl, hS, (by omega), rfl⟩, by omega⟩
  ·
    simp only [Bool.and_eq_true, Bool.or_eq_true, Bool.and_eq_false_iff, Bool.or_eq_false_iff, decide_eq_true_eq, decide_eq_false_iff_not, Bool.not_eq_true, Bool.not_eq_false, Bool.not_not, Bool.not_eq_eq_eq_not, Bool.not_true, Bool.not_false, Bool.false_eq_true, Bool.true_eq_false, ne_eq, Decidable.not_not, not_false_eq_true, not_true_eq_false] at c19
    obtain rfl : c = t.chans.length := by omega
    refine exit ?_
    show Code.wp _ _ _ _ _
    refine seq ?_
    refine region ?_
    refine sv (yMove h7) ?_
    refine sv (yAsg rfl) ?_
    refine nil ?_
    show Code.wp _ _ _ _ _
    refine wp_ret ?_
    exact retV (res1 rfl (eqI (slK_end t now A).symm)) hS.ext
end Go.Proofs.YtmoilbakmlekbaaGreatDoor

/- part A21 -/
namespace Bx
open Go Go.RowKit
section
variable {P : Program} {ρ : Operand → Value} {w : World} {ty : TypeId}
theorem yShrI {x y : Operand} {a k : Int} {t t' : TypeId} (hx : ρ x = .int .i64 a) (hy : ρ y = .int .i64 k) (h0 : 0 ≤ k) (h8 : k < 64) : Y P ρ (.binOp .shr t x y t') ty w (.int .i64 (a / 2 ^ k.toNat)) w := by
  have h1 : ¬ k < 0 := by omega
  have h2 : min k.toNat 64 = k.toNat := by omega
  simp [Y, xop, execOp, hx, hy, eqGuard, binOp, Op.shift, IntKind.bits, Int.fdiv_eq_ediv, h1, h2]
end
theorem chL_nod (t : Task) : (chL t).Nodup := by
  unfold chL
  exact List.pairwise_map.2 ((List.nodup_range (n := t.chans.length)).imp fun h e => h (Int.ofNat.inj e))
theorem wetL_nod (t : Task) : (wetL t).Nodup := (wetL_asc t).imp fun h => by omega
theorem chL_mem {t : Task} (ht : TaskOk t) : ∀ i, ∀ c ∈ (twn t i).chans, c ∈ chL t := fun i c hc => by
  have h := chan_mem ht hc
  exact List.mem_map.2 ⟨c.toNat, List.mem_range.2 (by omega), by show ((c.toNat : Nat) : Int) = c; omega⟩
theorem hall_law {t : Task} {now : Int} {A : List Int} (hck : (checkA t).2.2 = 0) (hn : 0 ≤ now ∧ now ≤ 200000) (hA : A.Sublist (wetL t)) : (A.length : Int) ≤ (plT t now).slots (chL t) A ∨ (planR t now).2 = 9 := by
  have hok := task_ok hck
  by_cases h : (A.length : Int) ≤ (plT t now).slots (chL t) A
  · exact .inl h
  · have hp : (plT t now).plan (fuelT t) = none := blk_none (chL_nod t) (wetL_nod t) (chL_mem hok) (fun c => (room_le hok c).1) (fuel_UU hok now) ((wetL_nod t).sublist hA) (fun a ha => hA.subset ha) (by unfold Pl.blk; omega)
    refine .inr ?_
    unfold planR planA
    rw [hp, if_neg]
    unfold atE
    rw [if_neg (fun h' => h' hck), if_neg (by rw [outB_false.2 hn]; decide)]
    simp
end Bx

/- part A22 -/
namespace Bx
open Go Go.RowKit
structure InTime (t : Task) (now : Int) (L : List Slot) : Prop where
  towns : L.map (·.town) = wetL t
  fits : ∀ s ∈ L, s.channel ∈ (twn t s.town).chans ∧ now ≤ s.sent ∧ s.sent ≤ latestF t s.town s.channel
  room : ∀ s ∈ L, (usedN L s.pl : Int) ≤ (chn t s.channel).room
end Bx

/- part LibB1 -/
namespace Bx
open Go Go.RowKit
def fromA (a : Option Addr) (cap i k : Nat) : Option Addr := if cap = i then a else a.map (·.add (i * k))
section
variable {P : Program} {ρ : Operand → Value} {w : World} {ty : TypeId}
theorem yFromA {T E : TypeId} {x xi : Operand} {a : Option Addr} {cap i k m : Nat} {kd : IntKind} (hx : ρ x = .slice a m cap) (hi : ρ xi = .int kd (i : Int)) (hu : P.underlying T = some (.slice E)) (hs : ∀ w, (Go.sizeOf E).run P w = .ok k w) (hm : i ≤ m) :
    Y P ρ (.slice T x (some xi) none none) ty w (.slice (fromA a cap i k) (m - i) (cap - i)) w := by
  have hb : (0 : Int) ≤ (i : Int) ∧ (i : Int) ≤ (m : Int) := ⟨by omega, by omega⟩
  simp only [Y, xop, execOp, Option.map_some, Option.map_none, hx, hi, Instr.sliceAt, run_underlying hu, Sem.run_bind, Result.andThen_ok, Instr.slice, Instr.sliceBounds, Instr.sliceBound, asIntOf, Sem.run_pure, Sem.run_ite, hb, and_self, if_true, hs, Int.toNat_natCast, fromA]
end
theorem Sl.drop {α : Type} {w : World} {k : Nat} {R : World → List Value → α → Prop} {a : Option Addr} {n cap i : Nat} {l : List α} (h : Sl w k R (.slice a n cap) l) (hi : i ≤ n) : Sl w k R (.slice (fromA a cap i k) (n - i) (cap - i)) (l.drop i) := by
  obtain ⟨a', cap', hv, h1, h2, h3⟩ := h
  simp only [Value.slice.injEq] at hv
  obtain ⟨rfl, rfl, rfl⟩ := hv
  refine ⟨_, _, by rw [List.length_drop], by rw [List.length_drop]; omega, by omega, fun j hj => ?_⟩
  rw [List.length_drop] at hj
  obtain ⟨b, o, cs, ha, hlc, hc, hr⟩ := h3 (i + j) (by omega)
  refine ⟨b, o + i * k, cs, ?_, hlc, ?_, by rw [List.getElem_drop]; exact hr⟩
  · unfold fromA
    rw [if_neg (by omega), ha, Option.map_some, addr_add]
  · rw [show o + i * k + j * k = o + (i + j) * k by rw [Nat.add_mul]; omega]; exact hc
theorem Sl.fit {α : Type} {w : World} {k : Nat} {R : World → List Value → α → Prop} {a : Option Addr} {n cap : Nat} {l : List α} (h : Sl w k R (.slice a n cap) l) : n ≤ cap := by
  obtain ⟨a', cap', hv, h1, -⟩ := h
  simp only [Value.slice.injEq] at hv
  omega
end Bx

/- part A26 -/
namespace Bx
open Go Go.RowKit
/-- What is better: which history is left out, how much more room, how much less delay, how much earlier. -/
structure Bett where
  hist : Int
  room : Int
  delay : Int
  earl : Int
theorem namedR_nil {α : Type} {nm : α → ByteArray} {rest : α → Int} : ∀ (l : List α) (seen : List ByteArray) (i : Int), (∀ x ∈ l, isName (nm x) = true ∧ rest x = 0 ∧ nm x ∉ seen) → (l.map nm).Nodup → (namedR nm rest l seen i).2 = 0
  | [], _, _, _, _ => rfl
  | x :: l, seen, i, h, hn => by
    have hx := h x (List.mem_cons_self ..)
    rw [List.map_cons, List.nodup_cons] at hn
    rw [namedR, if_neg (by rw [hx.1]; decide), if_neg (by rw [memB_iff]; exact hx.2.2), if_neg (fun k => k hx.2.1)]
    refine namedR_nil l _ _ (fun y hy => ⟨(h y (List.mem_cons_of_mem _ hy)).1, (h y (List.mem_cons_of_mem _ hy)).2.1, fun hm => ?_⟩) hn.2
    rcases List.mem_append.1 hm with hm | hm
    · exact (h y (List.mem_cons_of_mem _ hy)).2.2 hm
    · rw [List.mem_singleton] at hm
      exact hn.1 (hm ▸ List.mem_map_of_mem hy)
theorem firstR_nil {α : Type} {f : α → Int} : ∀ (l : List α) (i : Int), (∀ x ∈ l, f x = 0) → (firstR f l i).2 = 0
  | [], _, _ => rfl
  | x :: l, i, h => by rw [firstR, if_neg (fun k => k (h x (List.mem_cons_self ..)))]; exact firstR_nil l _ fun y hy => h y (List.mem_cons_of_mem _ hy)
structure ChkOk (t : Task) : Prop where
  pol : outB t.polders 0 6 = false
  nch : ¬ (4 : Int) < t.chans.length
  chs : ∀ c ∈ t.chans, isName c.name = true ∧ chanE c = 0
  chn : (t.chans.map (·.name)).Nodup
  ntw : ¬ (8 : Int) < t.towns.length
  tws : ∀ x ∈ t.towns, isName x.name = true ∧ townE t.polders t.chans.length x = 0
  twn : (t.towns.map (·.name)).Nodup
  nfl : outB t.floods.length 1 8 = false
  fls : ∀ l ∈ t.floods, floodE t.polders l = 0
theorem chk_iff {t : Task} : (checkA t).2.2 = 0 ↔ ChkOk t := by
  constructor
  · intro h
    unfold checkA at h
    split at h
    next => cases h
    next h1 =>
      split at h
      next => cases h
      next h2 =>
        split at h
        next h3 => exact absurd h h3
        next h3 =>
          split at h
          next => cases h
          next h4 =>
            split at h
            next h5 => exact absurd h h5
            next h5 =>
              split at h
              next => cases h
              next h6 =>
                split at h
                next h7 => exact absurd h h7
                next h7 =>
                  obtain ⟨a1, a2⟩ := namedR_ok _ _ _ (Decidable.not_not.1 h3)
                  obtain ⟨b1, b2⟩ := namedR_ok _ _ _ (Decidable.not_not.1 h5)
                  exact ⟨by simpa using h1, h2, fun c hc => ⟨(a1 c hc).1, (a1 c hc).2.1⟩, a2, h4, fun c hc => ⟨(b1 c hc).1, (b1 c hc).2.1⟩, b2, by simpa using h6, firstR_ok _ _ (Decidable.not_not.1 h7)⟩
  · intro h
    unfold checkA
    rw [if_neg (by rw [h.pol]; decide), if_neg h.nch, if_neg (fun k => k (namedR_nil _ _ _ (fun c hc => ⟨(h.chs c hc).1, (h.chs c hc).2, by simp⟩) h.chn)), if_neg h.ntw,
      if_neg (fun k => k (namedR_nil _ _ _ (fun c hc => ⟨(h.tws c hc).1, (h.tws c hc).2, by simp⟩) h.twn)), if_neg (by rw [h.nfl]; decide), if_neg (fun k => k (firstR_nil _ _ h.fls))]
end Bx

/- part A27 -/
namespace Bx
open Go Go.RowKit
/-- A log that is right, with nothing sent behind a tick. -/
structure LogOk (t : Task) (all : List Msg) (T : Int) : Prop where
  ok : wrongL t all 0 0 = 0
  sent : ∀ x ∈ all, x.sent ≤ T
theorem LogOk.msgs {t : Task} {all : List Msg} {T : Int} (h : LogOk t all T) : ∀ x ∈ all, MsgOk t x := (wrongL_ok all 0 0 (Int.le_refl _) h.ok).1
theorem sum_mono {g g' : Int → Int} : ∀ {l : List Int}, (∀ j ∈ l, g' j ≤ g j) → (l.map g').sum ≤ (l.map g).sum
  | [], _ => Int.le_refl _
  | x :: l, h => by
    have := sum_mono fun j hj => h j (List.mem_cons_of_mem x hj)
    have := h x (List.mem_cons_self ..)
    simp only [List.map_cons, List.sum_cons]; omega
def pot (t : Task) (all : List Msg) (T i : Int) : Int := (if lastF all i = stageF t i T then 0 else 1) + (if stageF t i T = 1 then 1 else 0)
def potS (t : Task) (all : List Msg) (T : Int) : Int := ((idxL t).map (pot t all T)).sum
theorem pot_bd (t : Task) (all : List Msg) (T i : Int) : 0 ≤ pot t all T i ∧ pot t all T i ≤ 2 := by unfold pot; split <;> split <;> omega
theorem potS_bd (t : Task) (all : List Msg) (T : Int) : 0 ≤ potS t all T ∧ potS t all T ≤ 2 * t.towns.length := by
  have h1 := sum_mono (l := idxL t) (g' := fun _ => 0) (g := pot t all T) fun j _ => (pot_bd t all T j).1
  have h2 := sum_mono (l := idxL t) (g := fun _ => 2) (g' := pot t all T) fun j _ => (pot_bd t all T j).2
  rw [sum_const] at h1 h2
  rw [idxL_len] at h1 h2
  unfold potS
  omega
def restA (t : Task) (log : List Msg) (now : Int) : Nat → List Msg
  | 0 => log
  | i + 1 => restA t log now i ++ nextF t (restA t log now i) (now + i)
structure RestI (t : Task) (log : List Msg) (now : Int) (i : Nat) : Prop where
  ok : wrongL t (restA t log now i) 0 0 = 0
  sent : ∀ x ∈ restA t log now i, x.sent < now + i
  few : ((restA t log now i).length : Int) + potS t (restA t log now i) (now + i) ≤ 116
theorem RestI.wrong {t : Task} {log : List Msg} {now : Int} {i : Nat} (h : RestI t log now i) : wrongF t (restA t log now i) = 0 := by
  have := h.few
  have := (potS_bd t (restA t log now i) (now + i)).1
  unfold wrongF
  rw [if_neg (by omega)]
  exact h.ok
theorem late_no {log : List Msg} {now : Int} (h : ∀ x ∈ log, x.sent ≤ now) (h0 : 0 ≤ now) : lateB log now = false := by
  unfold lateB
  rw [Bool.and_eq_false_iff]
  cases hq : log.getLast? with
  | none => exact .inr (by simpa using h0)
  | some z => exact .inr (by simpa using h z (List.mem_of_getLast? hq))
theorem RestI.next {t : Task} (hck : (checkA t).2.2 = 0) {log : List Msg} {now : Int} (hn : 0 ≤ now ∧ now ≤ 199800) {i : Nat} (hi : i < 40) (h : RestI t log now i) : nextR t (restA t log now i) (now + i) = (nextF t (restA t log now i) (now + i), 0) := by
  have e : nextE t (restA t log now i) (now + i) = 0 := by
    unfold nextE
    rw [if_neg (fun k => k hck), if_neg (fun k => k h.wrong), if_neg]
    rw [outB_false.2 (show 0 ≤ now + (i : Int) ∧ now + (i : Int) ≤ 200000 by omega), late_no (fun x hx => by have := h.sent x hx; omega) (by omega)]
    decide
  unfold nextR
  rw [if_neg (fun k => k e)]
end Bx

/- part A28 -/
namespace Bx
open Go Go.RowKit
theorem LogOk.i64 {t : Task} (ht : TaskOk t) {all : List Msg} {T : Int} (h : LogOk t all T) (hl : all.length ≤ 100000) : ∀ m ∈ all, MsgI m := fun m hm => by
  have h1 := h.msgs m hm
  obtain ⟨k, hk, rfl⟩ := List.getElem_of_mem hm
  have h2 := (wrongL_ok all 0 0 (Int.le_refl _) h.ok).2.1 k _ (List.getElem?_eq_getElem hk)
  have h3 := h1.town
  have h4 := h1.stage
  have h5 := h1.chan
  have h6 := h1.sent
  have := ht.ntw
  have := ht.nch
  refine ⟨⟨by omega, by omega⟩, ⟨by omega, by omega⟩, ⟨by omega, by omega⟩, ⟨by omega, by omega⟩, ⟨by omega, by omega⟩⟩
end Bx

/- part A29 -/
namespace Bx
open Go Go.RowKit
theorem Rows.app {α : Type} {w : World} {k : Nat} {R : World → List Value → α → Prop} : ∀ {c1 c2 : List (List Value)} {l1 l2 : List α}, Bx.Rows w k R c1 l1 → Bx.Rows w k R c2 l2 → Bx.Rows w k R (c1 ++ c2) (l1 ++ l2)
  | [], _, [], _, _, h => h
  | _ :: _, _, _ :: _, _, ⟨h1, h2, h3⟩, h => ⟨h1, h2, Rows.app h3 h⟩
  | [], _, _ :: _, _, h, _ => h.elim
  | _ :: _, _, [], _, h, _ => h.elim
/-- What two parts of a slice hold, as it is written out. -/
theorem sl_cut {α : Type} {w : World} {k : Nat} {R : World → List Value → α → Prop} {a : Option Addr} {cap i : Nat} {l : List α} (h : Sl w k R (.slice a l.length cap) l) (hi : i < l.length) :
    ∃ c1 c2, Bx.Rows w k R c1 (l.take i) ∧ Bx.Rows w k R c2 (l.drop (i + 1)) ∧ (0 < i → ∃ b o, a = some ⟨b, o, none⟩ ∧ Cells w b o c1.flatten) ∧ (0 < l.length - (i + 1) → ∃ b o, fromA a cap (i + 1) k = some ⟨b, o, none⟩ ∧ Cells w b o c2.flatten) := by
  have h1 := h.take (i := i) (by omega)
  have h2 := h.drop (i := i + 1) (by omega)
  have e1 : (l.take i).length = i := by rw [List.length_take]; omega
  have e2 : (l.drop (i + 1)).length = l.length - (i + 1) := List.length_drop
  obtain ⟨c1, r1, n1⟩ := sl_news (a := a) (cap := cap) (l := l.take i) (by rw [show Value.slice a (l.take i).length cap = Value.slice a i cap by rw [e1]]; exact h1)
  obtain ⟨c2, r2, n2⟩ := sl_news (a := fromA a cap (i + 1) k) (cap := cap - (i + 1)) (l := l.drop (i + 1)) (by rw [show Value.slice (fromA a cap (i + 1) k) (l.drop (i + 1)).length (cap - (i + 1)) = Value.slice (fromA a cap (i + 1) k) (l.length - (i + 1)) (cap - (i + 1)) by rw [e2]]; exact h2)
  rw [e1] at n1
  rw [e2] at n2
  exact ⟨c1, c2, r1, r2, n1, n2⟩
end Bx

/- part A31 -/
namespace Bx
open Go Go.RowKit
/-- What the zones are: in each those of the towns whose zone it is. -/
structure ZonesOf (f : Int → Int) (l : List Int) (zs : List (List Int)) : Prop where
  get : ∀ k, k < zs.length → zs[k]? = some (l.filter fun i => decide (f i = (k : Int)))
  lt : ∀ i ∈ l, f i < zs.length
  last : 0 < zs.length → ∃ i ∈ l, f i = (zs.length : Int) - 1
theorem wet_mem {t : Task} {i : Int} (h : i ∈ wetL t) : 0 ≤ i ∧ i < t.towns.length := (mem_wetL.1 h).1
end Bx

/- part A33 -/
namespace Bx
open Go Go.RowKit
section
variable {P : Program} {ρ : Operand → Value} {w : World} {ty : TypeId}
theorem yShlI {x y : Operand} {a k : Int} {t t' : TypeId} (hx : ρ x = .int .i64 a) (hy : ρ y = .int .i64 k) (h0 : 0 ≤ k) (h8 : k < 63) (hb : I64 (a * 2 ^ k.toNat)) : Y P ρ (.binOp .shl t x y t') ty w (.int .i64 (a * 2 ^ k.toNat)) w := by
  have h1 : ¬ k < 0 := by omega
  have h2 : min k.toNat 64 = k.toNat := by omega
  have h3 := wrap_in hb
  simp only [Y, xop, execOp, hx, hy, eqGuard, binOp, Op.shift, IntKind.bits, h1, h2, if_false]
  rw [h3]; rfl
theorem yAnd1 {x y : Operand} {a : Int} {t t' : TypeId} (hx : ρ x = .int .i64 a) (hy : ρ y = .int .i64 1) (h : 0 ≤ a ∧ a ≤ 9223372036854775807) : Y P ρ (.binOp .and t x y t') ty w (.int .i64 (a % 2)) w := by
  obtain ⟨n, rfl⟩ := Int.eq_ofNat_of_zero_le h.1
  have e : (BitVec.ofInt IntKind.i64.bits (n : Int) &&& BitVec.ofInt IntKind.i64.bits 1).toNat = n % 2 := by
    rw [BitVec.toNat_and, BitVec.toNat_ofInt, BitVec.toNat_ofInt]
    have e1 : ((n : Int) % ((2 ^ IntKind.i64.bits : Nat) : Int)).toNat = n := by
      have : ((2 ^ IntKind.i64.bits : Nat) : Int) = 18446744073709551616 := rfl
      rw [this]; omega
    have e2 : ((1 : Int) % ((2 ^ IntKind.i64.bits : Nat) : Int)).toNat = 1 := rfl
    rw [e1, e2, Nat.and_one_is_mod]
  have h3 : IntKind.i64.wrap ((n % 2 : Nat) : Int) = ((n : Int) % 2) := by
    rw [wrap_in ⟨by omega, by omega⟩]; omega
  simp only [Y, xop, execOp, hx, hy, eqGuard, binOp, Op.intBits]
  rw [e, h3]; rfl
end
theorem scopeR {a : Act} {Q : Exit → Act → World → Prop} {w : World} (h : Q .ret a w) : Exit.noGoto Q .ret a w := h
theorem scope {P : Program} {c : Code} {a : Act} {Q : Exit → Act → World → Prop} {w : World} (h : c.wp P (Exit.noGoto Q) a w) : (Code.scope c).wp P Q a w := wp_scope_straight h
theorem label {P : Program} {l : Nat} {a : Act} {Q : Exit → Act → World → Prop} {w : World} (h : Q .normal a w) : (Code.label l).wp P Q a w := wp_label h
theorem subsB_snoc : ∀ (l : List Int) (b : Nat) (a : Int), subsB (l ++ [a]) b = subsB l b ++ if b / 2 ^ l.length % 2 = 1 then [a] else []
  | [], b, a => by simp [subsB]
  | x :: l, b, a => by
    rw [List.cons_append, subsB, subsB, subsB_snoc l, List.length_cons, Nat.pow_succ, Nat.div_div_eq_div_mul, Nat.mul_comm 2 (2 ^ l.length)]
    split <;> rfl
theorem subsB_step {l : List Int} {k : Nat} {a : Int} (h : l[k]? = some a) (b : Nat) : subsB (l.take (k + 1)) b = subsB (l.take k) b ++ if b / 2 ^ k % 2 = 1 then [a] else [] := by
  have hk := (List.getElem?_eq_some_iff.1 h).1
  rw [take_snoc h, subsB_snoc, List.length_take, Nat.min_eq_left (by omega)]
theorem bitSets_len (l : List Int) : (bitSets l).length = 2 ^ l.length - 1 := by simp [bitSets]
theorem bitSets_get {l : List Int} {b : Nat} (h : b < 2 ^ l.length - 1) : (bitSets l)[b]? = some (subsB l (b + 1)) := by simp [bitSets, h]
theorem subsB_len (l : List Int) (b : Nat) : (subsB l b).length ≤ l.length := (subsB_sub l b).length_le
def cmpL : List Int → List Int → Int
  | [], [] => 0
  | [], _ :: _ => -1
  | _ :: _, [] => 1
  | x :: a, y :: b => if x < y then -1 else if y < x then 1 else cmpL a b
theorem cmpL_lex : ∀ {a b : List Int}, a.length = b.length → (cmpL a b < 0 ↔ lexB a b = true)
  | [], [], _ => by simp [cmpL, lexB]
  | [], _ :: _, h => by simp at h
  | _ :: _, [], h => by simp at h
  | x :: a, y :: b, h => by
    have ih := cmpL_lex (a := a) (b := b) (by simpa using h)
    rw [cmpL, lexB]
    simp only [Bool.or_eq_true, Bool.and_eq_true, decide_eq_true_eq]
    split
    · next h1 => exact ⟨fun _ => .inl h1, fun _ => by decide⟩
    · next h1 =>
      split
      · next h2 => exact ⟨fun h => absurd h (by decide), fun h => by omega⟩
      · next h2 =>
        have e : x = y := by omega
        rw [ih]
        exact ⟨fun h => .inr ⟨e, h⟩, fun h => by rcases h with h | h; exact absurd h h1; exact h.2⟩
/-- How the two lists stand behind a place up to which they are the same. -/
theorem cmpL_drop {a b : List Int} {k : Nat} {x y : Int} (hx : a[k]? = some x) (hy : b[k]? = some y) (hI : cmpL a b = cmpL (a.drop k) (b.drop k)) : cmpL a b = if x < y then -1 else if y < x then 1 else cmpL (a.drop (k + 1)) (b.drop (k + 1)) := by
  have hk := (List.getElem?_eq_some_iff.1 hx)
  have hk2 := (List.getElem?_eq_some_iff.1 hy)
  rw [hI, List.drop_eq_getElem_cons hk.1, List.drop_eq_getElem_cons hk2.1, hk.2, hk2.2, cmpL]
theorem cmpL_long {a b : List Int} {k : Nat} (ha : k < a.length) (hb : b.length ≤ k) (hI : cmpL a b = cmpL (a.drop k) (b.drop k)) : cmpL a b = 1 := by
  rw [hI, List.drop_eq_getElem_cons ha, List.drop_of_length_le hb]; rfl
theorem cmpL_end {a b : List Int} (hI : cmpL a b = cmpL (a.drop a.length) (b.drop a.length)) : cmpL a b = if a.length < b.length then -1 else 0 := by
  rw [hI, List.drop_length]
  by_cases h : a.length < b.length
  · rw [if_pos h, List.drop_eq_getElem_cons h]; rfl
  · rw [if_neg h, List.drop_of_length_le (by omega)]; rfl
def blkP (t : Task) (now : Int) (s : List Int) : Bool := decide ((plT t now).slots (chL t) s < s.length)
def blkO (t : Task) (now : Int) : Option (List Int) := bestL (blkP t now) (bitSets (wetL t))
def blkR (t : Task) (now : Int) : List Int × Int := if atE t now ≠ 0 then ([], atE t now) else ((blkO t now).getD [], 0)
theorem best_take {p : List Int → Bool} {l : List (List Int)} {k : Nat} {s : List Int} (h : l[k]? = some s) : bestL p (l.take (k + 1)) = bestStep p (bestL p (l.take k)) s := by rw [take_snoc h, bestL_snoc]
theorem best_mem {p : List Int → Bool} {l : List (List Int)} {g : List Int} (h : bestL p l = some g) : g ∈ l ∧ p g = true := by
  have := bestL_best p l
  rw [h] at this
  exact ⟨this.1, this.2.1⟩
theorem bit_set {l : List Int} {b : Nat} (h0 : 0 < b) (hb : b < 2 ^ l.length) : subsB l b ≠ [] := fun e => by
  have := subsB_nil hb e; omega
theorem best_ne {p : List Int → Bool} {l : List Int} {k : Nat} {g : List Int} (h : bestL p ((bitSets l).take k) = some g) : g ≠ [] ∧ g.Sublist l := by
  have h1 := (best_mem h).1
  have h2 := mem_bitSets.1 (List.mem_of_mem_take h1)
  exact ⟨h2.2, h2.1⟩
theorem befB_cmp {s g : List Int} : befB s g = (decide ((s.length : Int) < g.length) || (decide ((s.length : Int) = g.length) && decide (cmpL s g < 0))) := by
  unfold befB
  rw [Bool.eq_iff_iff]
  simp only [Bool.or_eq_true, Bool.and_eq_true, decide_eq_true_eq]
  constructor
  · rintro (h | ⟨h1, h2⟩)
    · exact .inl (by omega)
    · exact .inr ⟨by omega, (cmpL_lex h1).2 h2⟩
  · rintro (h | ⟨h1, h2⟩)
    · exact .inl (by omega)
    · exact .inr ⟨by omega, (cmpL_lex (by omega)).1 h2⟩
/-- What the program asks, in its words. -/
def betB (fo : Option (List Int)) (s : List Int) : Bool := match fo with | none => true | some g => befB s g
theorem bestStep_y {p : List Int → Bool} {fo : Option (List Int)} {s : List Int} (h1 : betB fo s = true) (h2 : p s = true) : bestStep p fo s = some s := by
  unfold bestStep
  exact if_pos ⟨h1, h2⟩
theorem bestStep_n {p : List Int → Bool} {fo : Option (List Int)} {s : List Int} (h : betB fo s = false ∨ p s = false) : bestStep p fo s = fo := by
  unfold bestStep
  refine if_neg fun k => ?_
  have h1 : betB fo s = true := k.1
  have h2 := k.2
  rcases h with h | h
  · rw [h] at h1; cases h1
  · rw [h] at h2; cases h2
theorem betB_eq {fo : Option (List Int)} {s : List Int} {b : Bool} {n : Int} {c : Int} (hb : b = decide (fo = none)) (hn : n = ((fo.getD []).length : Int)) (hc : c = cmpL s (fo.getD [])) : betB fo s = ((b || decide ((s.length : Int) < n)) || (decide ((s.length : Int) = n) && decide (c < 0))) := by
  subst hb hn hc
  cases fo with
  | none => rfl
  | some g =>
    have e : decide ((some g : Option (List Int)) = none) = false := by simp
    rw [e, Bool.false_or]
    exact befB_cmp
end Bx
namespace Bx
open Go Go.RowKit
theorem any_has {l : List Int} {v : Int} : (l.any fun x => decide (v = x)) = decide (v ∈ l) := by
  rw [Bool.eq_iff_iff]; simp
theorem cmp_hit {x y r : Int} (h : cmpI x y ≠ 0) : (if x < y then -1 else if y < x then 1 else r) = cmpI x y := by
  unfold cmpI at h ⊢
  split
  · rfl
  · rename_i h1
    rw [if_neg h1] at h
    split
    · rfl
    · rename_i h2
      rw [if_neg h2] at h; exact absurd rfl h
theorem cmp_eq {x y r : Int} (h : cmpI x y = 0) : (if x < y then -1 else if y < x then 1 else r) = r := by
  unfold cmpI at h
  split
  · rename_i h1; rw [if_pos h1] at h; cases h
  · rename_i h1
    rw [if_neg h1] at h
    split
    · rename_i h2; rw [if_pos h2] at h; cases h
    · rfl
theorem pow_cast (n : Nat) : (1 : Int) * 2 ^ ((n : Nat) : Int).toNat = ((2 ^ n : Nat) : Int) := by
  rw [Int.one_mul, Int.toNat_natCast]; push_cast; rfl
theorem pow_le8 {n : Nat} (h : n ≤ 8) : 1 ≤ 2 ^ n ∧ 2 ^ n ≤ 256 := by
  refine ⟨Nat.one_le_two_pow, ?_⟩
  exact Nat.le_trans (Nat.pow_le_pow_right (by decide) h) (by decide)
theorem bit_div (b k : Nat) : ((b : Int) + 1) / 2 ^ ((k : Nat) : Int).toNat = (((b + 1) / 2 ^ k : Nat) : Int) := by
  rw [Int.toNat_natCast]; push_cast; rfl
theorem bit_mod (n : Nat) : ((n : Nat) : Int) % 2 = 1 ↔ n % 2 = 1 := by omega
theorem skip_of {t : Task} {now : Int} {fo : Option (List Int)} {s : List Int} {e : Bool} (he : betB fo s = e) (h : (!e || decide ((s.length : Int) ≤ (plT t now).slots (chL t) s)) = true) : betB fo s = false ∨ blkP t now s = false := by
  rw [← he, Bool.or_eq_true, Bool.not_eq_true', decide_eq_true_eq] at h
  rcases h with h | h
  · exact .inl h
  · refine .inr ?_
    unfold blkP
    rw [decide_eq_false_iff_not]; omega
theorem take_of {t : Task} {now : Int} {fo : Option (List Int)} {s : List Int} {e : Bool} (he : betB fo s = e) (h : (!e || decide ((s.length : Int) ≤ (plT t now).slots (chL t) s)) = false) : betB fo s = true ∧ blkP t now s = true := by
  rw [← he, Bool.or_eq_false_iff, Bool.not_eq_false', decide_eq_false_iff_not] at h
  refine ⟨h.1, ?_⟩
  unfold blkP
  rw [decide_eq_true_eq]; omega
theorem blk_done {t : Task} {now : Int} {b : Nat} {fo : Option (List Int)} (ha : atE t now = 0) (hb : 2 ^ (wetL t).length - 1 ≤ b) (h : fo = bestL (blkP t now) ((bitSets (wetL t)).take b)) : blkR t now = (fo.getD [], 0) := by
  unfold blkR blkO
  rw [if_neg (fun k => k ha), h, List.take_of_length_le (by rw [bitSets_len]; omega)]
theorem isNone_dec {a : Option Addr} {fo : Option (List Int)} (h : a = none ↔ fo = none) : a.isNone = decide (fo = none) := by
  cases a with
  | none => rw [decide_eq_true (h.1 rfl)]; rfl
  | some x => rw [decide_eq_false (fun k => by have := h.2 k; cases this)]; rfl
theorem getD_mem {fo : Option (List Int)} {l : List Int} (h : ∀ g, fo = some g → g.Sublist l) : ∀ x ∈ fo.getD [], x ∈ l := by
  cases fo with
  | none => intro x hx; cases hx
  | some g => exact fun x hx => (h g rfl).subset hx
theorem getD_len {fo : Option (List Int)} {l : List Int} (h : ∀ g, fo = some g → g.Sublist l) : (fo.getD []).length ≤ l.length := by
  cases fo with
  | none => exact Nat.zero_le _
  | some g => exact (h g rfl).length_le
end Bx
namespace Bx
theorem bit_bd {b k : Nat} (h : b + 1 ≤ 256) : 0 ≤ ((b : Int) + 1) / 2 ^ ((k : Nat) : Int).toNat ∧ ((b : Int) + 1) / 2 ^ ((k : Nat) : Int).toNat ≤ 9223372036854775807 := by
  rw [bit_div]
  exact ⟨Int.natCast_nonneg _, Int.le_trans (Int.ofNat_le.2 (Nat.le_trans (Nat.div_le_self _ _) h)) (by decide)⟩
end Bx

/- part Aw42 -/
namespace Go.Proofs.YtmoilbakmlekbaaGreatDoor
open Go Bx
/-- slices.Index   int,int  -/
theorem c_IndexI {l : List Int} {x : Int} {v : Value} {w0 : World} (hsl : Sl w0 1 RInt v l) : CV Tryz.prog 140 #[v, .int .i64 x] w0 (.int .i64 (idxF (fun y => decide (x = y)) l 0)) := by
  obtain ⟨a, cap, rfl, hcap, hmx, hel⟩ := hsl
  refine enter Tryz.func140 rfl Tryz.ntmps140 rfl ?_
  have hS := St.start w0
  refine seq ?_
  refine region ?_
  refine sv (yAsg rfl) ?_
  refine nil ?_
  show Code.wp _ _ _ _ _
  refine seq ?_
  refine seq ?_
  refine region ?_
  refine sv (yMove rfl) ?_
  refine sv (yLen rfl Tryz.underlying34) ?_
  refine sv (yMove rfl) ?_
  refine nil ?_
  show Code.wp _ _ _ _ _
  refine block ?_
  refine loop (fun f w zz => ∃ (k : Nat), f 0 = .slice a l.length cap ∧ f 1 = .int .i64 x ∧ f 7 = .int .i64 (l.length : Int) ∧ f 8 = .int .i64 (k : Int) ∧ StX [] w0 w [] ∧ (k ≤ l.length) ∧ (idxF (fun y => decide (x = y)) l 0 = idxF (fun y => decide (x = y)) (l.drop k) k) ∧ zz = l.length - k) _ ⟨_, rfl, 0, rfl, rfl, rfl, rfl, hS, (Nat.zero_le _), (rfl), rfl⟩ ?_
  clear hS
  rintro f w _ ⟨k, h0, h1, h7, h8, hS, hk, hI, rfl⟩
  refine seq ?_
  refine region ?_
  refine sv (yLss h8 h7) ?_
  refine nil ?_
  show Code.wp _ _ _ _ _
  refine seq ?_
  refine cond rfl (fun c9 => ?_) (fun c9 => ?_)
  ·
    simp only [Bool.and_eq_true, Bool.or_eq_true, Bool.and_eq_false_iff, Bool.or_eq_false_iff, decide_eq_true_eq, decide_eq_false_iff_not, Bool.not_eq_true, Bool.not_eq_false, Bool.not_not, Bool.not_eq_eq_eq_not, Bool.not_true, Bool.not_false, Bool.false_eq_true, Bool.true_eq_false, ne_eq, Decidable.not_not, not_false_eq_true, not_true_eq_false] at c9
    obtain ⟨q, hxq, hdq⟩ := drop_of (l := l) (k := k) (by omega)
    obtain ⟨bq, oq, csq, haq, hlenq, hcsq, hRq⟩ := hel (k) (by omega)
    obtain rfl : q = l[k] := (List.getElem?_eq_some_iff.1 hxq).2.symm
    generalize l[k] = q at hxq hdq hRq
    obtain ⟨rfl, -⟩ := hRq
    refine skip ?_
    show Code.wp _ _ _ _ _
    refine seq ?_
    refine block ?_
    refine seq ?_
    refine region ?_
    refine sv (yMove h8) ?_
    refine sv (yAsg rfl) ?_
    refine nil ?_
    show Code.wp _ _ _ _ _
    refine seq ?_
    refine region ?_
    refine sv (yMove h1) ?_
    refine sv (yMove h0) ?_
    refine sv (yMove rfl) ?_
    refine sv (yIxa rfl haq rfl Tryz.runUnderlying34 Tryz.sizeOf3 (by omega) (by omega)) ?_
    refine sv (yLd rfl Tryz.isAgg3 ((hcsq.ext hS.ext).one)) ?_
    refine sv (yEql rfl rfl) ?_
    refine nil ?_
    show Code.wp _ _ _ _ _
    refine cond rfl (fun c16 => ?_) (fun c16 => ?_)
    ·
      simp only [Bool.and_eq_true, Bool.or_eq_true, Bool.and_eq_false_iff, Bool.or_eq_false_iff, decide_eq_true_eq, decide_eq_false_iff_not, Bool.not_eq_true, Bool.not_eq_false, Bool.not_not, Bool.not_eq_eq_eq_not, Bool.not_true, Bool.not_false, Bool.false_eq_true, Bool.true_eq_false, ne_eq, Decidable.not_not, not_false_eq_true, not_true_eq_false] at c16
      refine seq ?_
      refine region ?_
      refine sv (yMove rfl) ?_
      refine sv (yAsg rfl) ?_
      refine nil ?_
      show Code.wp _ _ _ _ _
      refine wp_ret (blockR (thenR (thenR (blockR (thenR ?_)))))
      exact retV (res1 rfl (eqI (by rw [hI, hdq, idxF, if_pos (by simpa using c16)]))) hS.ext
    ·
      simp only [Bool.and_eq_true, Bool.or_eq_true, Bool.and_eq_false_iff, Bool.or_eq_false_iff, decide_eq_true_eq, decide_eq_false_iff_not, Bool.not_eq_true, Bool.not_eq_false, Bool.not_not, Bool.not_eq_eq_eq_not, Bool.not_true, Bool.not_false, Bool.false_eq_true, Bool.true_eq_false, ne_eq, Decidable.not_not, not_false_eq_true, not_true_eq_false] at c16
      refine skip ?_
      show Code.wp _ _ _ _ _
      refine region ?_
      refine sv (yAdd h8 rfl ⟨by omega, by omega⟩) ?_
      refine sv (yMove rfl) ?_
      refine nil ?_
      exact ⟨_, _, rfl, ⟨k + 1, h0, h1, h7, rfl, hS, (by omega), (by rw [hI, hdq, idxF, if_neg (by simpa using c16)]; rfl), rfl⟩, by omega⟩
  ·
    simp only [Bool.and_eq_true, Bool.or_eq_true, Bool.and_eq_false_iff, Bool.or_eq_false_iff, decide_eq_true_eq, decide_eq_false_iff_not, Bool.not_eq_true, Bool.not_eq_false, Bool.not_not, Bool.not_eq_eq_eq_not, Bool.not_true, Bool.not_false, Bool.false_eq_true, Bool.true_eq_false, ne_eq, Decidable.not_not, not_false_eq_true, not_true_eq_false] at c9
    obtain rfl : k = l.length := by omega
    refine exit ?_
    show Code.wp _ _ _ _ _
    refine seq ?_
    refine region ?_
    refine sv (yAsg rfl) ?_
    refine nil ?_
    show Code.wp _ _ _ _ _
    refine wp_ret ?_
    exact retV (res1 rfl (eqI (by rw [hI, List.drop_length]; rfl))) hS.ext
/-- slices.Contains   int,int  -/
theorem c_ContainsI {l : List Int} {x : Int} {v : Value} {w0 : World} (hsl : Sl w0 1 RInt v l) : CV Tryz.prog 123 #[v, .int .i64 x] w0 (.bool (decide (x ∈ l))) := by
  refine enter Tryz.func123 rfl Tryz.ntmps123 rfl ?_
  have hS := St.start w0
  refine seq ?_
  refine region ?_
  refine sv (yAsg rfl) ?_
  refine nil ?_
  show Code.wp _ _ _ _ _
  refine seq ?_
  refine region ?_
  refine sv (yMove rfl) ?_
  refine sv (yMove rfl) ?_
  refine scall Tryz.call140 (.cons rfl (.cons rfl .nil)) (c_IndexI hsl) ?_
  rintro _ w ⟨rfl, hE⟩; replace hS := hS.step hE; clear hE
  refine sv (yGeq rfl rfl) ?_
  refine sv (yAsg rfl) ?_
  refine nil ?_
  show Code.wp _ _ _ _ _
  refine wp_ret ?_
  exact retV (res1 rfl (eqB (by rw [idxF_any _ l 0 (Int.le_refl 0), any_has]))) hS.ext
set_option maxHeartbeats 1000000 in
/-- slices.Compare   int,int  -/
theorem c_CompareI {la lb : List Int} {va vb : Value} {w0 : World} (ha : Sl w0 1 RInt va la) (hb : Sl w0 1 RInt vb lb) : CV Tryz.prog 92 #[va, vb] w0 (.int .i64 (cmpL la lb)) := by
  obtain ⟨aa, ca, rfl, hca, hma, hela⟩ := ha
  obtain ⟨ab, cb, rfl, hcb, hmb, helb⟩ := hb
  refine enter Tryz.func92 rfl Tryz.ntmps92 rfl ?_
  have hS := St.start w0
  refine seq ?_
  refine region ?_
  refine sv (yAsg rfl) ?_
  refine nil ?_
  show Code.wp _ _ _ _ _
  refine seq ?_
  refine seq ?_
  refine region ?_
  refine sv (yMove rfl) ?_
  refine sv (yLen rfl Tryz.underlying34) ?_
  refine sv (yMove rfl) ?_
  refine nil ?_
  show Code.wp _ _ _ _ _
  refine block ?_
  refine loop (fun f w zz => ∃ (k : Nat), f 0 = .slice aa la.length ca ∧ f 1 = .slice ab lb.length cb ∧ f 9 = .slice aa la.length ca ∧ f 10 = .int .i64 (la.length : Int) ∧ f 11 = .int .i64 (k : Int) ∧ StX [] w0 w [] ∧ (k ≤ la.length) ∧ (cmpL la lb = cmpL (la.drop k) (lb.drop k)) ∧ zz = la.length - k) _ ⟨_, rfl, 0, rfl, rfl, rfl, rfl, rfl, hS, (Nat.zero_le _), (rfl), rfl⟩ ?_
  clear hS
  rintro f w _ ⟨k, h0, h1, h9, h10, h11, hS, hk, hI, rfl⟩
  refine seq ?_
  refine region ?_
  refine sv (yLss h11 h10) ?_
  refine nil ?_
  show Code.wp _ _ _ _ _
  refine seq ?_
  refine cond rfl (fun c12 => ?_) (fun c12 => ?_)
  ·
    simp only [Bool.and_eq_true, Bool.or_eq_true, Bool.and_eq_false_iff, Bool.or_eq_false_iff, decide_eq_true_eq, decide_eq_false_iff_not, Bool.not_eq_true, Bool.not_eq_false, Bool.not_not, Bool.not_eq_eq_eq_not, Bool.not_true, Bool.not_false, Bool.false_eq_true, Bool.true_eq_false, ne_eq, Decidable.not_not, not_false_eq_true, not_true_eq_false] at c12
    obtain ⟨x, hxx, hdx⟩ := drop_of (l := la) (k := k) (by omega)
    obtain ⟨bx, ox, csx, hax, hlenx, hcsx, hRx⟩ := hela (k) (by omega)
    obtain rfl : x = la[k] := (List.getElem?_eq_some_iff.1 hxx).2.symm
    generalize la[k] = x at hxx hdx hRx
    obtain ⟨rfl, hxi⟩ := hRx
    refine skip ?_
    show Code.wp _ _ _ _ _
    refine seq ?_
    refine block ?_
    refine seq ?_
    refine region ?_
    refine sv (yMove h11) ?_
    refine sv (yIxa h9 hax h11 Tryz.runUnderlying34 Tryz.sizeOf3 (by omega) (by omega)) ?_
    refine sv (yLd rfl Tryz.isAgg3 ((hcsx.ext hS.ext).one)) ?_
    refine sv (yAsg rfl) ?_
    refine sv (yAsg rfl) ?_
    refine nil ?_
    show Code.wp _ _ _ _ _
    refine seq ?_
    refine seq ?_
    refine region ?_
    refine sv (yMove rfl) ?_
    refine sv (yMove h1) ?_
    refine sv (yLen rfl Tryz.underlying34) ?_
    refine sv (yGeq rfl rfl) ?_
    refine nil ?_
    show Code.wp _ _ _ _ _
    refine cond rfl (fun c19 => ?_) (fun c19 => ?_)
    ·
      simp only [Bool.and_eq_true, Bool.or_eq_true, Bool.and_eq_false_iff, Bool.or_eq_false_iff, decide_eq_true_eq, decide_eq_false_iff_not, Bool.not_eq_true, Bool.not_eq_false, Bool.not_not, Bool.not_eq_eq_eq_not, Bool.not_true, Bool.not_false, Bool.false_eq_true, Bool.true_eq_false, ne_eq, Decidable.not_not, not_false_eq_true, not_true_eq_false] at c19
      refine seq ?_
      refine region ?_
      refine sv (yAsg rfl) ?_
      refine nil ?_
      show Code.wp _ _ _ _ _
      refine wp_ret (thenR (blockR (thenR (thenR (blockR (thenR ?_))))))
      exact retV (res1 rfl (eqI (cmpL_long (k := k) (by omega) (by omega) hI))) hS.ext
    ·
      simp only [Bool.and_eq_true, Bool.or_eq_true, Bool.and_eq_false_iff, Bool.or_eq_false_iff, decide_eq_true_eq, decide_eq_false_iff_not, Bool.not_eq_true, Bool.not_eq_false, Bool.not_not, Bool.not_eq_eq_eq_not, Bool.not_true, Bool.not_false, Bool.false_eq_true, Bool.true_eq_false, ne_eq, Decidable.not_not, not_false_eq_true, not_true_eq_false] at c19
      obtain ⟨y, hxz, hdz⟩ := drop_of (l := lb) (k := k) (by omega)
      obtain ⟨bz, oz, csz, haz, hlenz, hcsz, hRz⟩ := helb (k) (by omega)
      obtain rfl : y = lb[k] := (List.getElem?_eq_some_iff.1 hxz).2.symm
      generalize lb[k] = y at hxz hdz hRz
      obtain ⟨rfl, hyi⟩ := hRz
      refine skip ?_
      show Code.wp _ _ _ _ _
      refine seq ?_
      refine region ?_
      refine sv (yMove h1) ?_
      refine sv (yMove rfl) ?_
      refine sv (yIxa rfl haz rfl Tryz.runUnderlying34 Tryz.sizeOf3 (by omega) (by omega)) ?_
      refine sv (yLd rfl Tryz.isAgg3 ((hcsz.ext hS.ext).one)) ?_
      refine sv (yAsg rfl) ?_
      refine nil ?_
      show Code.wp _ _ _ _ _
      refine seq ?_
      refine region ?_
      refine sv (yMove rfl) ?_
      refine sv (yMove rfl) ?_
      refine scall Tryz.call119 (.cons rfl (.cons rfl .nil)) c_cmp ?_
      rintro _ w ⟨rfl, hE⟩; replace hS := hS.step hE; clear hE
      refine sv (yAsg rfl) ?_
      refine nil ?_
      show Code.wp _ _ _ _ _
      refine seq ?_
      refine region ?_
      refine sv (yMove rfl) ?_
      refine sv (yNeq rfl rfl) ?_
      refine nil ?_
      show Code.wp _ _ _ _ _
      refine cond rfl (fun c28 => ?_) (fun c28 => ?_)
      ·
        simp only [Bool.and_eq_true, Bool.or_eq_true, Bool.and_eq_false_iff, Bool.or_eq_false_iff, decide_eq_true_eq, decide_eq_false_iff_not, Bool.not_eq_true, Bool.not_eq_false, Bool.not_not, Bool.not_eq_eq_eq_not, Bool.not_true, Bool.not_false, Bool.false_eq_true, Bool.true_eq_false, ne_eq, Decidable.not_not, not_false_eq_true, not_true_eq_false] at c28
        refine seq ?_
        refine region ?_
        refine sv (yMove rfl) ?_
        refine sv (yAsg rfl) ?_
        refine nil ?_
        show Code.wp _ _ _ _ _
        refine wp_ret (blockR (thenR (thenR (blockR (thenR ?_)))))
        exact retV (res1 rfl (eqI ((cmpL_drop hxx hxz hI).trans (cmp_hit c28)))) hS.ext
      ·
        simp only [Bool.and_eq_true, Bool.or_eq_true, Bool.and_eq_false_iff, Bool.or_eq_false_iff, decide_eq_true_eq, decide_eq_false_iff_not, Bool.not_eq_true, Bool.not_eq_false, Bool.not_not, Bool.not_eq_eq_eq_not, Bool.not_true, Bool.not_false, Bool.false_eq_true, Bool.true_eq_false, ne_eq, Decidable.not_not, not_false_eq_true, not_true_eq_false] at c28
        refine skip ?_
        show Code.wp _ _ _ _ _
        refine region ?_
        refine sv (yAdd h11 rfl ⟨by omega, by omega⟩) ?_
        refine sv (yMove rfl) ?_
        refine nil ?_
        exact ⟨_, _, rfl, ⟨k + 1, h0, h1, h9, h10, rfl, hS, (by omega), ((cmpL_drop hxx hxz hI).trans (cmp_eq c28)), rfl⟩, by omega⟩
  ·
    simp only [Bool.and_eq_true, Bool.or_eq_true, Bool.and_eq_false_iff, Bool.or_eq_false_iff, decide_eq_true_eq, decide_eq_false_iff_not, Bool.not_eq_true, Bool.not_eq_false, Bool.not_not, Bool.not_eq_eq_eq_not, Bool.not_true, Bool.not_false, Bool.false_eq_true, Bool.true_eq_false, ne_eq, Decidable.not_not, not_false_eq_true, not_true_eq_false] at c12
    obtain rfl : k = la.length := by omega
    refine exit ?_
    show Code.wp _ _ _ _ _
    refine seq ?_
    refine seq ?_
    refine region ?_
    refine sv (yMove h0) ?_
    refine sv (yLen rfl Tryz.underlying34) ?_
    refine sv (yMove h1) ?_
    refine sv (yLen rfl Tryz.underlying34) ?_
    refine sv (yLss rfl rfl) ?_
    refine nil ?_
    show Code.wp _ _ _ _ _
    refine cond rfl (fun c35 => ?_) (fun c35 => ?_)
    ·
      simp only [Bool.and_eq_true, Bool.or_eq_true, Bool.and_eq_false_iff, Bool.or_eq_false_iff, decide_eq_true_eq, decide_eq_false_iff_not, Bool.not_eq_true, Bool.not_eq_false, Bool.not_not, Bool.not_eq_eq_eq_not, Bool.not_true, Bool.not_false, Bool.false_eq_true, Bool.true_eq_false, ne_eq, Decidable.not_not, not_false_eq_true, not_true_eq_false] at c35
      refine seq ?_
      refine region ?_
      refine sv (yAsg rfl) ?_
      refine nil ?_
      show Code.wp _ _ _ _ _
      refine wp_ret (thenR ?_)
      exact retV (res1 rfl (eqI ((cmpL_end hI).trans (if_pos (by omega))))) hS.ext
    ·
      simp only [Bool.and_eq_true, Bool.or_eq_true, Bool.and_eq_false_iff, Bool.or_eq_false_iff, decide_eq_true_eq, decide_eq_false_iff_not, Bool.not_eq_true, Bool.not_eq_false, Bool.not_not, Bool.not_eq_eq_eq_not, Bool.not_true, Bool.not_false, Bool.false_eq_true, Bool.true_eq_false, ne_eq, Decidable.not_not, not_false_eq_true, not_true_eq_false] at c35
      refine skip ?_
      show Code.wp _ _ _ _ _
      refine seq ?_
      refine region ?_
      refine sv (yAsg rfl) ?_
      refine nil ?_
      show Code.wp _ _ _ _ _
      refine wp_ret ?_
      exact retV (res1 rfl (eqI ((cmpL_end hI).trans (if_neg (by omega))))) hS.ext
set_option maxHeartbeats 2000000 in
/-- (*barrage/alarm.board).slots -/
theorem c_bslots {t : Task} {b : Nat} {now : Int} {A : List Int} {va : Value} {w0 : World} (hB : RBoard w0 b t) (hn : 0 ≤ now ∧ now ≤ 200000) (hA : Sl w0 1 RInt va A) (hAm : ∀ i ∈ A, 0 ≤ i ∧ i < t.towns.length) : CV Tryz.prog 93 #[.pointer (some ⟨b, 0, none⟩), .int .i64 now, va] w0 (.int .i64 ((plT t now).slots (chL t) A)) := by
  obtain ⟨a1, c1, a2, c2, a3, c3, a4, c4, a5, c5, T, hb, s1, s2, s3, s4, s5, hok⟩ := id hB.opn
  have hn8 := hok.ntw
  have hf8 := hok.nfl
  have hc4 := hok.nch
  obtain ⟨av, cv, rfl, hcapv, hmxv, helv⟩ := id hA
  refine enter Tryz.func93 rfl Tryz.ntmps93 rfl ?_
  have hS := St.start w0
  refine seq ?_
  refine region ?_
  refine sv (yAsg rfl) ?_
  refine nil ?_
  show Code.wp _ _ _ _ _
  refine seq ?_
  refine region ?_
  refine sv (yAsg rfl) ?_
  refine nil ?_
  show Code.wp _ _ _ _ _
  refine seq ?_
  refine seq ?_
  refine region ?_
  refine sv (yMove rfl) ?_
  refine sv (yNil rfl) ?_
  refine sv (fa141_0 rfl) ?_
  refine sv (fa26_1 rfl) ?_
  refine sv (yLdB rfl Tryz.isAgg22 (hS.ext.get hb) rfl) ?_
  refine sv (yLen rfl Tryz.underlying22) ?_
  refine sv (yMove rfl) ?_
  refine nil ?_
  show Code.wp _ _ _ _ _
  refine block ?_
  refine loop (fun f w zz => ∃ (c : Nat), f 0 = .pointer (some ⟨b, 0, none⟩) ∧ f 1 = .int .i64 now ∧ f 2 = .slice av A.length cv ∧ f 7 = .int .i64 (slK t now A c) ∧ f 17 = .slice a1 t.chans.length c1 ∧ f 18 = .int .i64 (t.chans.length : Int) ∧ f 19 = .int .i64 (c : Int) ∧ StX [] w0 w [] ∧ (c ≤ t.chans.length) ∧ zz = t.chans.length - c) _ ⟨_, rfl, 0, rfl, rfl, rfl, rfl, rfl, rfl, rfl, hS, (Nat.zero_le _), rfl⟩ ?_
  clear hS
  rintro f w _ ⟨c, h0, h1, h2, h7, h17, h18, h19, hS, hc, rfl⟩
  refine seq ?_
  refine region ?_
  refine sv (yLss h19 h18) ?_
  refine nil ?_
  show Code.wp _ _ _ _ _
  refine seq ?_
  refine cond rfl (fun c20 => ?_) (fun c20 => ?_)
  ·
    simp only [Bool.and_eq_true, Bool.or_eq_true, Bool.and_eq_false_iff, Bool.or_eq_false_iff, decide_eq_true_eq, decide_eq_false_iff_not, Bool.not_eq_true, Bool.not_eq_false, Bool.not_not, Bool.not_eq_eq_eq_not, Bool.not_true, Bool.not_false, Bool.false_eq_true, Bool.true_eq_false, ne_eq, Decidable.not_not, not_false_eq_true, not_true_eq_false] at c20
    have hcl : c < t.chans.length := by omega
    have hcb : 0 ≤ (c : Int) ∧ (c : Int) < t.chans.length := by omega
    have hsb := slK_bd hok hn.1 A c hc
    obtain ⟨bc, oc, csc, hac, hlc, hcsc, hRc, -⟩ := sl_at s1 (chn_i (t := t) hcb)
    obtain ⟨rfl, -⟩ := hRc
    have hco := chan_ok hok hcb
    refine skip ?_
    show Code.wp _ _ _ _ _
    refine seq ?_
    refine block ?_
    refine seq ?_
    refine region ?_
    refine sv (yMove h19) ?_
    refine sv (yIxa h17 hac h19 Tryz.runUnderlying22 Tryz.sizeOf41 (by omega) (by omega)) ?_
    refine sv (yLdA rfl Tryz.isAgg41 Tryz.sizeOf41 (hcsc.ext hS.ext) rfl) ?_
    refine salloc hS Tryz.zeroValue41 rfl ?_; clear hS; intro b9 w hS
    refine sv (yAsg rfl) ?_
    refine sst hS rfl rfl Tryz.sizeOf41 rfl rfl rfl rfl ?_; clear hS; intro w hS
    refine nil ?_
    show Code.wp _ _ _ _ _
    refine seq ?_
    refine region ?_
    refine sv (yAsg rfl) ?_
    refine nil ?_
    show Code.wp _ _ _ _ _
    refine seq ?_
    refine seq ?_
    refine region ?_
    refine sv (yMove h2) ?_
    refine sv (yLen rfl Tryz.underlying34) ?_
    refine sv (yMove rfl) ?_
    refine nil ?_
    show Code.wp _ _ _ _ _
    refine block ?_
    refine loop (fun f w zz => ∃ (k : Nat), f 0 = .pointer (some ⟨b, 0, none⟩) ∧ f 1 = .int .i64 now ∧ f 2 = .slice av A.length cv ∧ f 7 = .int .i64 (slK t now A c) ∧ f 17 = .slice a1 t.chans.length c1 ∧ f 18 = .int .i64 (t.chans.length : Int) ∧ f 19 = .int .i64 (c : Int) ∧ f 8 = .int .i64 (c : Int) ∧ f 9 = .pointer (some ⟨b9, 0, none⟩) ∧ f 10 = .int .i64 ((plT t now).cnt (c : Int) (A.take k)) ∧ f 24 = .slice av A.length cv ∧ f 25 = .int .i64 (A.length : Int) ∧ f 26 = .int .i64 (k : Int) ∧ StX [] w0 w [blk b9 (chanC (chn t (c : Int))) 41] ∧ (k ≤ A.length) ∧ zz = A.length - k) _ ⟨_, rfl, 0, h0, h1, h2, h7, h17, h18, h19, rfl, rfl, rfl, rfl, rfl, rfl, hS, (Nat.zero_le _), rfl⟩ ?_
    clear hS
    rintro f w _ ⟨k, h0, h1, h2, h7, h17, h18, h19, h8, h9, h10, h24, h25, h26, hS, hk, rfl⟩
    refine seq ?_
    refine region ?_
    refine sv (yLss h26 h25) ?_
    refine nil ?_
    show Code.wp _ _ _ _ _
    refine seq ?_
    refine cond rfl (fun c27 => ?_) (fun c27 => ?_)
    ·
      simp only [Bool.and_eq_true, Bool.or_eq_true, Bool.and_eq_false_iff, Bool.or_eq_false_iff, decide_eq_true_eq, decide_eq_false_iff_not, Bool.not_eq_true, Bool.not_eq_false, Bool.not_not, Bool.not_eq_eq_eq_not, Bool.not_true, Bool.not_false, Bool.false_eq_true, Bool.true_eq_false, ne_eq, Decidable.not_not, not_false_eq_true, not_true_eq_false] at c27
      obtain ⟨i, hxv, hdv⟩ := drop_of (l := A) (k := k) (by omega)
      obtain ⟨bv, ov, csv, hav, hlenv, hcsv, hRv⟩ := helv (k) (by omega)
      obtain rfl : i = A[k] := (List.getElem?_eq_some_iff.1 hxv).2.symm
      generalize A[k] = i at hxv hdv hRv
      obtain ⟨rfl, hiI⟩ := hRv
      have hib := hAm i (List.mem_of_getElem? hxv)
      obtain ⟨bt, ot, cst, hat, hlt, hcst, hRt, -⟩ := sl_at s2 (twn_i (t := t) hib)
      obtain ⟨dvt, rfl, -, -, -, -, hslt, -⟩ := hRt
      have hto := town_ok hok hib
      have htl := hto.lead
      obtain ⟨ad, cd, rfl, -⟩ := id hslt
      have hcn := cnt_bd (plT_late t hn.1) (c : Int) (A.take k)
      have hlb : (plT t now).latest i (c : Int) = latestF t i (c : Int) := rfl
      refine skip ?_
      show Code.wp _ _ _ _ _
      refine seq ?_
      refine block ?_
      refine seq ?_
      refine region ?_
      refine sv (yIxa h24 hav h26 Tryz.runUnderlying34 Tryz.sizeOf3 (by omega) (by omega)) ?_
      refine sv (yLd rfl Tryz.isAgg3 ((hcsv.ext hS.ext).one)) ?_
      refine sv (yAsg rfl) ?_
      refine nil ?_
      show Code.wp _ _ _ _ _
      refine seq ?_
      refine region ?_
      refine sv (yMove h0) ?_
      refine sv (yNil rfl) ?_
      refine sv (fa141_0 rfl) ?_
      refine sv (fa26_2 rfl) ?_
      refine sv (yLdB rfl Tryz.isAgg23 (hS.ext.get hb) rfl) ?_
      refine sv (yMove rfl) ?_
      refine sv (yIxa rfl hat rfl Tryz.runUnderlying23 Tryz.sizeOf36 (by omega) (by omega)) ?_
      refine sv (fa36_4 rfl) ?_
      refine sv (yLd rfl Tryz.isAgg34 ((hcst.ext hS.ext).at (j := 4) rfl)) ?_
      refine sv (yMove h8) ?_
      refine scall Tryz.call123 (.cons rfl (.cons rfl .nil)) (c_ContainsI (hslt.ext RInt.stays hS.ext)) ?_
      rintro _ w ⟨rfl, hE⟩; replace hS := hS.step hE; clear hE
      refine nil ?_
      show Code.wp _ _ _ _ _
      refine cond rfl (fun c40 => ?_) (fun c40 => ?_)
      ·
        simp only [Bool.and_eq_true, Bool.or_eq_true, Bool.and_eq_false_iff, Bool.or_eq_false_iff, decide_eq_true_eq, decide_eq_false_iff_not, Bool.not_eq_true, Bool.not_eq_false, Bool.not_not, Bool.not_eq_eq_eq_not, Bool.not_true, Bool.not_false, Bool.false_eq_true, Bool.true_eq_false, ne_eq, Decidable.not_not, not_false_eq_true, not_true_eq_false] at c40
        have hin : (c : Int) ∈ (plT t now).chans i := c40
        have hlt : max ((plT t now).cnt (c : Int) (A.take k)) ((plT t now).latest i (c : Int) - (plT t now).now + 1) = max ((plT t now).cnt (c : Int) (A.take k)) (latestF t i (c : Int) - now + 1) := rfl
        have hla := act_bd hok hib
        have hll : latestF t i (c : Int) = min 200000 (actF t i - (chn t (c : Int)).delay) := rfl
        have hdel := hco.1
        refine region ?_
        refine sv (yMove h10) ?_
        refine sv (yMove h0) ?_
        refine sv (yMove rfl) ?_
        refine sv (yMove h8) ?_
        refine scall Tryz.call104 (.cons rfl (.cons rfl (.cons rfl .nil))) (c_latest (hB.ext hS.ext) hib hcb) ?_
        rintro _ w ⟨rfl, hE⟩; replace hS := hS.step hE; clear hE
        refine sv (yMove h1) ?_
        refine sv (ySub rfl rfl ⟨by omega, by omega⟩) ?_
        refine sv (yAdd rfl rfl ⟨by omega, by omega⟩) ?_
        refine sv (yMax rfl rfl) ?_
        refine sv (yAsg rfl) ?_
        refine nil ?_
        show Code.wp _ _ _ _ _
        refine region ?_
        refine sv (yAdd h26 rfl ⟨by omega, by omega⟩) ?_
        refine sv (yMove rfl) ?_
        refine nil ?_
        exact ⟨_, _, rfl, ⟨k + 1, h0, h1, h2, h7, h17, h18, h19, h8, h9, (rfl.trans (congrArg (Value.int .i64) (by rw [take_snoc hxv, cnt_snoc, if_pos hin, hlt]))), h24, h25, rfl, hS, (by omega), rfl⟩, by omega⟩
      ·
        simp only [Bool.and_eq_true, Bool.or_eq_true, Bool.and_eq_false_iff, Bool.or_eq_false_iff, decide_eq_true_eq, decide_eq_false_iff_not, Bool.not_eq_true, Bool.not_eq_false, Bool.not_not, Bool.not_eq_eq_eq_not, Bool.not_true, Bool.not_false, Bool.false_eq_true, Bool.true_eq_false, ne_eq, Decidable.not_not, not_false_eq_true, not_true_eq_false] at c40
        have hout : ¬ (c : Int) ∈ (plT t now).chans i := c40
        refine skip ?_
        show Code.wp _ _ _ _ _
        refine region ?_
        refine sv (yAdd h26 rfl ⟨by omega, by omega⟩) ?_
        refine sv (yMove rfl) ?_
        refine nil ?_
        exact ⟨_, _, rfl, ⟨k + 1, h0, h1, h2, h7, h17, h18, h19, h8, h9, (h10.trans (congrArg (Value.int .i64) (by rw [take_snoc hxv, cnt_snoc, if_neg hout]))), h24, h25, rfl, hS, (by omega), rfl⟩, by omega⟩
    ·
      simp only [Bool.and_eq_true, Bool.or_eq_true, Bool.and_eq_false_iff, Bool.or_eq_false_iff, decide_eq_true_eq, decide_eq_false_iff_not, Bool.not_eq_true, Bool.not_eq_false, Bool.not_not, Bool.not_eq_eq_eq_not, Bool.not_true, Bool.not_false, Bool.false_eq_true, Bool.true_eq_false, ne_eq, Decidable.not_not, not_false_eq_true, not_true_eq_false] at c27
      obtain rfl : k = A.length := by omega
      rw [List.take_length] at h10
      have hcn := cnt_bd (plT_late t hn.1) (c : Int) A
      have hpr := prod_bd hcn hco.2
      refine exit ?_
      show Code.wp _ _ _ _ _
      refine region ?_
      refine sv (yMove h7) ?_
      refine sv (yMove h10) ?_
      refine sv (fa41_2 h9) ?_
      refine sv (yLdB rfl Tryz.isAgg3 (hS.at _) rfl) ?_
      refine sv (yMul rfl rfl ⟨by omega, by omega⟩) ?_
      refine sv (yAdd rfl rfl ⟨by omega, by omega⟩) ?_
      refine sv (yAsg rfl) ?_
      refine nil ?_
      show Code.wp _ _ _ _ _
      refine region ?_
      refine sv (yAdd h19 rfl ⟨by omega, by omega⟩) ?_
      refine sv (yMove rfl) ?_
      refine nil ?_
      exact ⟨_, _, rfl, ⟨c + 1, h0, h1, h2, (rfl.trans (congrArg (Value.int .i64) (slK_succ now A hcl).symm)), h17, h18, rfl, (hS.sub (List.nil_sublist _)), (by omega), rfl⟩, by omega⟩
  ·
    simp only [Bool.and_eq_true, Bool.or_eq_true, Bool.and_eq_false_iff, Bool.or_eq_false_iff, decide_eq_true_eq, decide_eq_false_iff_not, Bool.not_eq_true, Bool.not_eq_false, Bool.not_not, Bool.not_eq_eq_eq_not, Bool.not_true, Bool.not_false, Bool.false_eq_true, Bool.true_eq_false, ne_eq, Decidable.not_not, not_false_eq_true, not_true_eq_false] at c20
    obtain rfl : c = t.chans.length := by omega
    refine exit ?_
    show Code.wp _ _ _ _ _
    refine seq ?_
    refine region ?_
    refine sv (yMove h7) ?_
    refine sv (yAsg rfl) ?_
    refine nil ?_
    show Code.wp _ _ _ _ _
    refine wp_ret ?_
    exact retV (res1 rfl (eqI (slK_end t now A).symm)) hS.ext
end Go.Proofs.YtmoilbakmlekbaaGreatDoor

/- part Aw43 -/
namespace Go.Proofs.YtmoilbakmlekbaaGreatDoor
open Go Bx
set_option maxHeartbeats 4000000 in
/-- barrage/alarm.Blocked -/
theorem c_Blocked {t : Task} {hv nv fv : Value} {now : Int} {w0 : World} (hg : Glb w0) (h : RTask w0 [.int .i64 t.polders, hv, nv, fv] t) : CE Tryz.prog 39 #[.agg [.int .i64 t.polders, hv, nv, fv].toArray, .int .i64 now] w0 (fun u w' => ∃ lv, u = .tuple #[lv, .int .i64 (blkR t now).2] ∧ Sl w' 1 RInt lv (blkR t now).1 ∧ Ext w0 w') := by
  obtain ⟨hv', nv', fv', he0, hpol, hsh, hsn, hsf⟩ := id h
  obtain ⟨rfl, rfl, rfl⟩ : hv' = hv ∧ nv' = nv ∧ fv' = fv := by simpa [eq_comm] using he0
  obtain ⟨a1, cap1, rfl, hcap1, hmx1, hel1⟩ := id hsh
  obtain ⟨a2, cap2, rfl, hcap2, hmx2, hel2⟩ := id hsn
  obtain ⟨a3, cap3, rfl, hcap3, hmx3, hel3⟩ := id hsf
  refine enter Tryz.func39 rfl Tryz.ntmps39 rfl ?_
  have hS := St.start w0
  refine seq ?_
  refine region ?_
  refine sbox hS rfl rfl ?_; clear hS; intro b2 w hS
  refine sv (yAsg rfl) ?_
  refine sv (yAsg rfl) ?_
  refine nil ?_
  show Code.wp _ _ _ _ _
  refine scope ?_
  refine seq ?_
  refine region ?_
  refine sv (yLdBA rfl Tryz.isAgg26 Tryz.sizeOf26 (hS.at _) rfl rfl) ?_
  refine sv (yMove rfl) ?_
  refine scall Tryz.call47 (.cons rfl (.cons rfl .nil)) (c_at (hg.ext hS.ext) (h.ext hS.ext)) ?_
  rintro _ w (⟨he, rfl, hE⟩ | ⟨he, bb, b1, bz, rfl, hM⟩)
  ·
    replace hS := hS.step hE; clear hE
    refine sv (yMove rfl) ?_
    refine sv (yExt rfl rfl) ?_
    refine sv (yExt rfl rfl) ?_
    refine sv (yAsg rfl) ?_
    refine sv (yAsg rfl) ?_
    refine nil ?_
    show Code.wp _ _ _ _ _
    refine seq ?_
    refine seq ?_
    refine region ?_
    refine sv (yMove rfl) ?_
    refine sv (yNeq rfl rfl) ?_
    refine nil ?_
    show Code.wp _ _ _ _ _
    refine cond rfl (fun c20 => ?_) (fun c20 => ?_)
    ·
      simp only [Bool.and_eq_true, Bool.or_eq_true, Bool.and_eq_false_iff, Bool.or_eq_false_iff, decide_eq_true_eq, decide_eq_false_iff_not, Bool.not_eq_true, Bool.not_eq_false, Bool.not_not, Bool.not_eq_eq_eq_not, Bool.not_true, Bool.not_false, Bool.false_eq_true, Bool.true_eq_false, ne_eq, Decidable.not_not, not_false_eq_true, not_true_eq_false] at c20
      refine seq ?_
      refine region ?_
      refine sv (yMove rfl) ?_
      refine sv (yAsg rfl) ?_
      refine sv (yAsg rfl) ?_
      refine nil ?_
      show Code.wp _ _ _ _ _
      refine wp_ret (thenR (scopeR ?_))
      refine retQ (res2 rfl rfl rfl) ?_
      have hf : blkR t now = ([], atE t now) := if_pos he
      rw [hf]
      exact ⟨_, rfl, Sl.nil, hS.ext⟩
    ·
      simp only [Bool.and_eq_true, Bool.or_eq_true, Bool.and_eq_false_iff, Bool.or_eq_false_iff, decide_eq_true_eq, decide_eq_false_iff_not, Bool.not_eq_true, Bool.not_eq_false, Bool.not_not, Bool.not_eq_eq_eq_not, Bool.not_true, Bool.not_false, Bool.false_eq_true, Bool.true_eq_false, ne_eq, Decidable.not_not, not_false_eq_true, not_true_eq_false] at c20
      exact absurd c20 he
  ·
    replace hS := hS.call hM; clear hM
    obtain ⟨hok, hn⟩ := atE_ok he
    replace hS : StX [] w0 w [blk bb [.int .i64 t.polders, .slice a1 t.chans.length cap1, .slice a2 t.towns.length cap2, .slice a3 t.floods.length cap3, .slice (some ⟨b1, 0, none⟩) t.towns.length t.towns.length, .slice (some ⟨bz, 0, none⟩) t.towns.length t.towns.length] 141, blk b1 ((arrS t).flatMap spanC) 44, blk bz ((arrN t).flatMap Bx.encI) 3, blk b2 [.int .i64 t.polders, .slice a1 t.chans.length cap1, .slice a2 t.towns.length cap2, .slice a3 t.floods.length cap3] 26] := hS
    have hB : RBoard w bb t := board_mk (hS.at bb) (h.ext hS.ext) hok (hS.at b1) (hS.at bz)
    have hE0 := hS.ext
    obtain ⟨w0, hwq⟩ : ∃ wq, wq = w := ⟨w, rfl⟩
    rw [← hwq] at hE0 hB
    replace hS : StX [] w0 w [] := by rw [hwq]; exact St.start w
    clear hwq
    have hwl := wetL_len t
    have hn8 := hok.ntw
    refine sv (yMove rfl) ?_
    refine sv (yExt rfl rfl) ?_
    refine sv (yExt rfl rfl) ?_
    refine sv (yAsg rfl) ?_
    refine sv (yAsg rfl) ?_
    refine nil ?_
    show Code.wp _ _ _ _ _
    refine seq ?_
    refine seq ?_
    refine region ?_
    refine sv (yMove rfl) ?_
    refine sv (yNeq rfl rfl) ?_
    refine nil ?_
    show Code.wp _ _ _ _ _
    refine cond rfl (fun c20 => ?_) (fun c20 => ?_)
    ·
      exact absurd c20 (by decide)
    ·
      refine skip ?_
      show Code.wp _ _ _ _ _
      refine seq ?_
      refine region ?_
      refine sv (yMove rfl) ?_
      refine scall Tryz.call48 (.cons rfl .nil) (c_wet (hB.ext hS.ext)) ?_
      rintro tv w hM; replace hS := hS.call1 hM; clear hM
      obtain ⟨aw, cw, rfl⟩ := row_shape (hS.row tv)
      have hpw := pow_cast (wetL t).length
      have hp8 := pow_le8 (n := (wetL t).length) (by omega)
      refine sv (yAsg rfl) ?_
      refine nil ?_
      show Code.wp _ _ _ _ _
      refine seq ?_
      refine label ?_
      show Code.wp _ _ _ _ _
      refine seq ?_
      refine seq ?_
      refine region ?_
      refine sv (yAsg rfl) ?_
      refine nil ?_
      show Code.wp _ _ _ _ _
      refine block ?_
      refine loop (fun f w zz => ∃ (b : Nat) (af : Option Addr) (cf : Nat) (fo : Option (List Int)), f 1 = .int .i64 now ∧ f 4 = .slice af (fo.getD []).length cf ∧ f 6 = .pointer (some ⟨bb, 0, none⟩) ∧ f 7 = .slice aw (wetL t).length cw ∧ f 8 = .int .i64 ((b : Int) + 1) ∧ StX [] w0 w [rowI (.slice af (fo.getD []).length cf) 3 1 (fo.getD []).length ((fo.getD []).flatMap Bx.encI), rowI (.slice aw (wetL t).length cw) 3 1 ((wetL t)).length (((wetL t)).flatMap Bx.encI)] ∧ (b ≤ 2 ^ (wetL t).length - 1) ∧ (fo = bestL (blkP t now) ((bitSets (wetL t)).take b)) ∧ (af = none ↔ fo = none) ∧ zz = 2 ^ (wetL t).length - b) _ ⟨_, rfl, 0, _, _, none, rfl, rfl, rfl, rfl, (rfl.trans (congrArg (Value.int .i64) (by simp))), (hS.nilrow 3 1), (Nat.zero_le _), (rfl), (⟨fun _ => rfl, fun _ => rfl⟩), rfl⟩ ?_
      clear hS
      rintro f w _ ⟨b, af, cf, fo, h1, h4, h6, h7, h8, hS, hb, hfo, hfa, rfl⟩
      have hfs : ∀ g, fo = some g → g.Sublist (wetL t) := fun g hg2 => (best_ne (hfo.symm.trans hg2)).2
      have hfl := getD_len hfs
      refine seq ?_
      refine seq ?_
      refine region ?_
      refine sv (yMove h8) ?_
      refine sv (yMove h7) ?_
      refine sv (yLen rfl Tryz.underlying34) ?_
      refine sv (yShlI rfl rfl (by omega) (by omega) ⟨by rw [hpw]; omega, by rw [hpw]; omega⟩) ?_
      refine sv (yLss rfl rfl) ?_
      refine nil ?_
      show Code.wp _ _ _ _ _
      refine cond rfl (fun c28 => ?_) (fun c28 => ?_)
      ·
        simp only [Bool.and_eq_true, Bool.or_eq_true, Bool.and_eq_false_iff, Bool.or_eq_false_iff, decide_eq_true_eq, decide_eq_false_iff_not, Bool.not_eq_true, Bool.not_eq_false, Bool.not_not, Bool.not_eq_eq_eq_not, Bool.not_true, Bool.not_false, Bool.false_eq_true, Bool.true_eq_false, ne_eq, Decidable.not_not, not_false_eq_true, not_true_eq_false] at c28
        rw [hpw] at c28
        have hbl : b < 2 ^ (wetL t).length - 1 := by omega
        have hbg := bitSets_get hbl
        refine skip ?_
        show Code.wp _ _ _ _ _
        refine seq ?_
        refine block ?_
        refine seq ?_
        refine region ?_
        refine sv (yAsg rfl) ?_
        refine nil ?_
        show Code.wp _ _ _ _ _
        refine seq ?_
        refine seq ?_
        refine region ?_
        refine sv (yMove h7) ?_
        refine sv (yLen rfl Tryz.underlying34) ?_
        refine sv (yMove rfl) ?_
        refine nil ?_
        show Code.wp _ _ _ _ _
        refine block ?_
        refine loop (fun f w zz => ∃ (k : Nat) (uv : Value), f 1 = .int .i64 now ∧ f 4 = .slice af (fo.getD []).length cf ∧ f 6 = .pointer (some ⟨bb, 0, none⟩) ∧ f 7 = .slice aw (wetL t).length cw ∧ f 8 = .int .i64 ((b : Int) + 1) ∧ f 9 = uv ∧ f 31 = .slice aw (wetL t).length cw ∧ f 32 = .int .i64 ((wetL t).length : Int) ∧ f 33 = .int .i64 (k : Int) ∧ StX [] w0 w [rowI (uv) 3 1 (subsB ((wetL t).take k) (b + 1)).length ((subsB ((wetL t).take k) (b + 1)).flatMap Bx.encI), rowI (.slice af (fo.getD []).length cf) 3 1 (fo.getD []).length ((fo.getD []).flatMap Bx.encI), rowI (.slice aw (wetL t).length cw) 3 1 ((wetL t)).length (((wetL t)).flatMap Bx.encI)] ∧ (k ≤ (wetL t).length) ∧ zz = (wetL t).length - k) _ ⟨_, rfl, 0, _, h1, h4, h6, h7, h8, rfl, rfl, rfl, rfl, (hS.nilrow 3 1), (Nat.zero_le _), rfl⟩ ?_
        clear hS
        rintro f w _ ⟨k, uv, h1, h4, h6, h7, h8, h9, h31, h32, h33, hS, hk, rfl⟩
        refine seq ?_
        refine region ?_
        refine sv (yLss h33 h32) ?_
        refine nil ?_
        show Code.wp _ _ _ _ _
        refine seq ?_
        refine cond rfl (fun c34 => ?_) (fun c34 => ?_)
        ·
          simp only [Bool.and_eq_true, Bool.or_eq_true, Bool.and_eq_false_iff, Bool.or_eq_false_iff, decide_eq_true_eq, decide_eq_false_iff_not, Bool.not_eq_true, Bool.not_eq_false, Bool.not_not, Bool.not_eq_eq_eq_not, Bool.not_true, Bool.not_false, Bool.false_eq_true, Bool.true_eq_false, ne_eq, Decidable.not_not, not_false_eq_true, not_true_eq_false] at c34
          obtain ⟨x, hxw, -⟩ := drop_of (l := (wetL t)) (k := k) (by omega)
          obtain ⟨go, hao, -⟩ := row_get (hS.row (.slice aw (wetL t).length cw)) (by omega)
          have hbd := bit_div b k
          have hsl := subsB_len ((wetL t).take k) (b + 1)
          have htl : ((wetL t).take k).length ≤ k := by simp; omega
          have hdv : (b + 1) / 2 ^ k ≤ b + 1 := Nat.div_le_self _ _
          refine skip ?_
          show Code.wp _ _ _ _ _
          refine seq ?_
          refine block ?_
          refine seq ?_
          refine region ?_
          refine sv (yMove h33) ?_
          refine sv (yIxa h31 hao h33 Tryz.runUnderlying34 Tryz.sizeOf3 (by omega) (by omega)) ?_
          refine sv (yLd rfl Tryz.isAgg3 ((flat_cells (enc := Bx.encI) encI_len (row_at (hS.row (.slice aw (wetL t).length cw)) hao (by omega)) hxw).one)) ?_
          refine sv (yAsg rfl) ?_
          refine sv (yAsg rfl) ?_
          refine nil ?_
          show Code.wp _ _ _ _ _
          refine seq ?_
          refine region ?_
          refine sv (yMove h8) ?_
          refine sv (yMove rfl) ?_
          refine sv (yShrI rfl rfl (by omega) (by omega)) ?_
          refine sv (yAnd1 rfl rfl (bit_bd (by omega))) ?_
          refine sv (yEql rfl rfl) ?_
          refine nil ?_
          show Code.wp _ _ _ _ _
          refine cond rfl (fun c42 => ?_) (fun c42 => ?_)
          ·
            simp only [Bool.and_eq_true, Bool.or_eq_true, Bool.and_eq_false_iff, Bool.or_eq_false_iff, decide_eq_true_eq, decide_eq_false_iff_not, Bool.not_eq_true, Bool.not_eq_false, Bool.not_not, Bool.not_eq_eq_eq_not, Bool.not_true, Bool.not_false, Bool.false_eq_true, Bool.true_eq_false, ne_eq, Decidable.not_not, not_false_eq_true, not_true_eq_false] at c42
            rw [hbd, bit_mod] at c42
            have hbk := c42
            refine region ?_
            refine sv (yMove h9) ?_
            refine sv (yMove rfl) ?_
            refine sbslice hS Tryz.underlying34 Tryz.sizeOf3 rfl Tryz.zeroValue3 rfl (.cons rfl rfl .nil) rfl ?_; clear hS; intro b45 w hS
            refine sapp (bytes := 8) (size := 1) (v := uv) (m := 1) hS rfl rfl Tryz.underlying34 ti3 rfl rfl rfl rfl (by decide) (blk_cells (hS.at _)) rfl rfl (by omega) (by omega) ?_; clear hS; intro v46 w hS
            refine sv (yAsg rfl) ?_
            refine nil ?_
            show Code.wp _ _ _ _ _
            refine region ?_
            refine sv (yAdd h33 rfl ⟨by omega, by omega⟩) ?_
            refine sv (yMove rfl) ?_
            refine nil ?_
            exact ⟨_, _, rfl, ⟨k + 1, _, h1, h4, h6, h7, h8, rfl, h31, h32, rfl, (by rw [subsB_step hxw, if_pos hbk, List.flatMap_append, List.length_append]; exact hS.sub (.cons _ (List.Sublist.refl _))), (by omega), rfl⟩, by omega⟩
          ·
            simp only [Bool.and_eq_true, Bool.or_eq_true, Bool.and_eq_false_iff, Bool.or_eq_false_iff, decide_eq_true_eq, decide_eq_false_iff_not, Bool.not_eq_true, Bool.not_eq_false, Bool.not_not, Bool.not_eq_eq_eq_not, Bool.not_true, Bool.not_false, Bool.false_eq_true, Bool.true_eq_false, ne_eq, Decidable.not_not, not_false_eq_true, not_true_eq_false] at c42
            rw [hbd, bit_mod] at c42
            have hbk := c42
            refine skip ?_
            show Code.wp _ _ _ _ _
            refine region ?_
            refine sv (yAdd h33 rfl ⟨by omega, by omega⟩) ?_
            refine sv (yMove rfl) ?_
            refine nil ?_
            exact ⟨_, _, rfl, ⟨k + 1, _, h1, h4, h6, h7, h8, h9, h31, h32, rfl, (by rw [subsB_step hxw, if_neg hbk, List.append_nil]; exact hS), (by omega), rfl⟩, by omega⟩
        ·
          simp only [Bool.and_eq_true, Bool.or_eq_true, Bool.and_eq_false_iff, Bool.or_eq_false_iff, decide_eq_true_eq, decide_eq_false_iff_not, Bool.not_eq_true, Bool.not_eq_false, Bool.not_not, Bool.not_eq_eq_eq_not, Bool.not_true, Bool.not_false, Bool.false_eq_true, Bool.true_eq_false, ne_eq, Decidable.not_not, not_false_eq_true, not_true_eq_false] at c34
          obtain rfl : k = (wetL t).length := by omega
          rw [List.take_length] at hS
          obtain ⟨ag, cg, rfl⟩ := row_shape (hS.row uv)
          have hne := bit_set (l := (wetL t)) (b := b + 1) (by omega) (by omega)
          have hsl := subsB_len (wetL t) (b + 1)
          have hag : ag ≠ none := fun hh => by obtain ⟨g, e, -⟩ := row_get (hS.row (.slice ag (subsB (wetL t) (b + 1)).length cg)) (List.length_pos_iff.2 hne); rw [hh] at e; cases e
          have hbe := betB_eq (fo := fo) (s := subsB (wetL t) (b + 1)) (isNone_dec hfa) rfl rfl
          refine exit ?_
          show Code.wp _ _ _ _ _
          refine seq ?_
          refine region ?_
          refine sv (yMove h4) ?_
          refine sv (yEqNil rfl rfl Tryz.underlying34) ?_
          refine sv (yMove rfl) ?_
          refine sg rfl rfl rfl (fun g => (yMove h9)) (fun v51 g51 => ?_)
          refine sg rfl rfl rfl (fun g => (yLen (g51.1 g) Tryz.underlying34)) (fun v52 g52 => ?_)
          refine sg rfl rfl rfl (fun g => (yMove h4)) (fun v53 g53 => ?_)
          refine sg rfl rfl rfl (fun g => (yLen (g53.1 g) Tryz.underlying34)) (fun v54 g54 => ?_)
          refine sg rfl rfl rfl (fun g => (yLss (g52.1 g) (g54.1 g))) (fun v55 g55 => ?_)
          refine sv (yOr rfl rfl (fun hB => (g55.1 hB))) ?_
          refine sv (yMove rfl) ?_
          refine sg rfl rfl rfl (fun g => (yMove h9)) (fun v58 g58 => ?_)
          refine sg rfl rfl rfl (fun g => (yLen (g58.1 g) Tryz.underlying34)) (fun v59 g59 => ?_)
          refine sg rfl rfl rfl (fun g => (yMove h4)) (fun v60 g60 => ?_)
          refine sg rfl rfl rfl (fun g => (yLen (g60.1 g) Tryz.underlying34)) (fun v61 g61 => ?_)
          refine sg rfl rfl rfl (fun g => (yEql (g59.1 g) (g61.1 g))) (fun v62 g62 => ?_)
          refine sg rfl rfl rfl (fun g => (yMove (g62.1 g))) (fun v63 g63 => ?_)
          refine sgg rfl rfl g63 (fun g => (yMove h9)) (fun v64 g64 => ?_)
          refine sgg rfl rfl g63 (fun g => (yMove h4)) (fun v65 g65 => ?_)
          refine sggc hS rfl rfl g63 Tryz.call92 (fun g => (.cons (g64.1 g) (.cons (g65.1 g) .nil))) (fun g => (c_CompareI (sl_ints (hS.row (.slice ag (subsB (wetL t) (b + 1)).length cg)) rfl (fun x hx => by have := wet_mem ((subsB_sub _ _).subset hx); constructor <;> omega)) (sl_ints (hS.row (.slice af (fo.getD []).length cf)) rfl (fun x hx => by have := wet_mem (getD_mem hfs x hx); constructor <;> omega)))) ?_; clear hS; intro v66 w hS g66
          refine sgg rfl rfl g63 (fun g => (yLss (g66.1 g) rfl)) (fun v67 g67 => ?_)
          refine sg rfl rfl rfl (fun g => (yAnd (g63.1 g) (fun hB => (g67.1 ⟨g, hB⟩)) rfl)) (fun v68 g68 => ?_)
          refine sv (yOr rfl rfl (fun hB => (g68.1 hB))) ?_
          refine sv (yAsg rfl) ?_
          refine nil ?_
          show Code.wp _ _ _ _ _
          refine seq ?_
          refine seq ?_
          refine region ?_
          refine sv (yMove rfl) ?_
          refine sv (yNot rfl) ?_
          refine sv (yMove rfl) ?_
          refine sg rfl rfl rfl (fun g => (yMove h6)) (fun v73 g73 => ?_)
          refine sg rfl rfl rfl (fun g => (yMove h1)) (fun v74 g74 => ?_)
          refine sg rfl rfl rfl (fun g => (yMove h9)) (fun v75 g75 => ?_)
          refine sgc hS rfl rfl rfl Tryz.call93 (fun g => (.cons (g73.1 g) (.cons (g74.1 g) (.cons (g75.1 g) .nil)))) (fun g => (c_bslots (hB.ext hS.ext) hn (sl_ints (hS.row (.slice ag (subsB (wetL t) (b + 1)).length cg)) rfl (fun x hx => by have := wet_mem ((subsB_sub _ _).subset hx); constructor <;> omega)) (fun x hx => wet_mem ((subsB_sub _ _).subset hx)))) ?_; clear hS; intro v76 w hS g76
          refine sg rfl rfl rfl (fun g => (yMove h9)) (fun v77 g77 => ?_)
          refine sg rfl rfl rfl (fun g => (yLen (g77.1 g) Tryz.underlying34)) (fun v78 g78 => ?_)
          refine sg rfl rfl rfl (fun g => (yGeq (g76.1 g) (g78.1 g))) (fun v79 g79 => ?_)
          refine sv (yOr rfl rfl (fun hB => (g79.1 hB))) ?_
          refine nil ?_
          show Code.wp _ _ _ _ _
          refine cond rfl (fun c80 => ?_) (fun c80 => ?_)
          ·
            refine exit ?_
            show Code.wp _ _ _ _ _
            refine region ?_
            refine sv (yMove h8) ?_
            refine sv (yAdd rfl rfl ⟨by omega, by omega⟩) ?_
            refine sv (yAsg rfl) ?_
            refine nil ?_
            exact ⟨_, _, rfl, ⟨b + 1, _, _, fo, h1, h4, h6, h7, (rfl.trans (congrArg (Value.int .i64) (by push_cast; omega))), (hS.sub (.cons _ (List.Sublist.refl _))), (by omega), (by rw [best_take hbg, ← hfo]; exact (bestStep_n (skip_of hbe c80)).symm), (hfa), rfl⟩, by omega⟩
          ·
            refine skip ?_
            show Code.wp _ _ _ _ _
            refine region ?_
            refine sv (yMove h9) ?_
            refine sv (yAsg rfl) ?_
            refine nil ?_
            show Code.wp _ _ _ _ _
            refine region ?_
            refine sv (yMove h8) ?_
            refine sv (yAdd rfl rfl ⟨by omega, by omega⟩) ?_
            refine sv (yAsg rfl) ?_
            refine nil ?_
            exact ⟨_, _, rfl, ⟨b + 1, _, _, some (subsB (wetL t) (b + 1)), h1, rfl, h6, h7, (rfl.trans (congrArg (Value.int .i64) (by push_cast; omega))), (hS.sub (.cons_cons _ (.cons _ (List.Sublist.refl _)))), (by omega), (by rw [best_take hbg, ← hfo]; exact (bestStep_y (take_of hbe c80).1 (take_of hbe c80).2).symm), (⟨fun hh => absurd hh hag, fun hh => by cases hh⟩), rfl⟩, by omega⟩
      ·
        simp only [Bool.and_eq_true, Bool.or_eq_true, Bool.and_eq_false_iff, Bool.or_eq_false_iff, decide_eq_true_eq, decide_eq_false_iff_not, Bool.not_eq_true, Bool.not_eq_false, Bool.not_not, Bool.not_eq_eq_eq_not, Bool.not_true, Bool.not_false, Bool.false_eq_true, Bool.true_eq_false, ne_eq, Decidable.not_not, not_false_eq_true, not_true_eq_false] at c28
        rw [hpw] at c28
        have hf := blk_done he (b := b) (by omega) hfo
        refine exit ?_
        show Code.wp _ _ _ _ _
        refine seq ?_
        refine region ?_
        refine sv (yMove h4) ?_
        refine sv (yAsg rfl) ?_
        refine sv (yAsg rfl) ?_
        refine nil ?_
        show Code.wp _ _ _ _ _
        refine wp_ret (scopeR ?_)
        refine retQ (res2 rfl rfl rfl) ?_
        rw [hf]
        exact ⟨_, rfl, (sl_ints (hS.row (.slice af (fo.getD []).length cf)) rfl (fun x hx => by have := wet_mem (getD_mem hfs x hx); constructor <;> omega)), hE0.trans hS.ext⟩
end Go.Proofs.YtmoilbakmlekbaaGreatDoor

/- part A34 -/
namespace Bx
open Go Go.RowKit
theorem atE_chk {t : Task} {now : Int} (h : atE t now = 0) : (checkA t).2.2 = 0 := by
  by_cases e : (checkA t).2.2 = 0
  · exact e
  · unfold atE at h; rw [if_pos e] at h; exact absurd h e
end Bx

/- part A35 -/
namespace Bx
open Go Go.RowKit
abbrev LLW := List (List Value)
theorem blk_at {t : Task} {now : Int} (h : (blkR t now).2 = 0) : atE t now = 0 ∧ blkR t now = ((blkO t now).getD [], 0) := by
  unfold blkR at h ⊢
  split at h
  next h1 => exact absurd h h1
  next h1 => exact ⟨Decidable.not_not.1 h1, if_neg h1⟩
theorem blk_err {t : Task} {now : Int} (h : ¬ (blkR t now).2 = 0) : (planR t now).2 = (blkR t now).2 := by
  by_cases h1 : atE t now = 0
  · exact absurd (by unfold blkR; rw [if_neg (fun k => k h1)]) h
  · unfold planR blkR
    rw [if_pos h1, if_pos h1]
theorem slots_pos {t : Task} (ht : TaskOk t) (now : Int) (A : List Int) : 0 ≤ (plT t now).slots (chL t) A := by
  have := slotL_len (P := plT t now) (C := chL t) (A := A) (fun c => (room_le ht c).1)
  omega
theorem blk_nil {t : Task} {now : Int} (h : (blkR t now).2 = 0) (h0 : (blkR t now).1 = []) : (planR t now).2 = 0 := by
  obtain ⟨h1, h2⟩ := blk_at h
  have hck := atE_chk h1
  have hok := task_ok hck
  rw [h2] at h0
  have hn : blkO t now = none := by
    cases hq : blkO t now with
    | none => rfl
    | some g =>
      rw [hq] at h0
      have h3 : bestL (blkP t now) ((bitSets (wetL t)).take (bitSets (wetL t)).length) = some g := by rw [List.take_length]; exact hq
      exact absurd h0 (best_ne h3).1
  have hb := bestL_best (blkP t now) (bitSets (wetL t))
  have hb2 : Best (blkP t now) (bitSets (wetL t)) none := by rw [← hn]; exact hb
  unfold planR
  rw [if_neg (fun k => k h1)]
  cases hp : planA t now with
  | some L => rfl
  | none =>
    exfalso
    obtain ⟨p, hpb⟩ := none_blk (chL_nod t) (wetL_nod t) (chL_mem hok) (fun c => (room_le hok c).1) (fuel_UU hok now) hp
    have hpb2 : (plT t now).slots (chL t) ((wetL t).filter p) < ((wetL t).filter p).length := hpb
    have hs := slots_pos hok now ((wetL t).filter p)
    have hne : (wetL t).filter p ≠ [] := fun e => by rw [e] at hpb2 hs; simp at hpb2; omega
    have := hb2 ((wetL t).filter p) (mem_bitSets.2 ⟨List.filter_sublist, hne⟩)
    unfold blkP at this
    rw [decide_eq_false_iff_not] at this
    exact this hpb2
structure BlkOk (t : Task) (now : Int) (l : List Int) : Prop where
  sub : l.Sublist (wetL t)
  few : (plT t now).slots (chL t) l < l.length
  plan : (planR t now).2 = 9
  rest : ∀ i, i < l.length → ((l.take i ++ l.drop (i + 1)).length : Int) ≤ (plT t now).slots (chL t) (l.take i ++ l.drop (i + 1))
theorem cut_sub {l : List Int} (i : Nat) : (l.take i ++ l.drop (i + 1)).Sublist l := by
  have h : (l.take i ++ l.drop (i + 1)).Sublist (l.take i ++ l.drop i) := List.Sublist.append (List.Sublist.refl _) (by rw [← List.drop_drop]; exact List.drop_sublist 1 _)
  rwa [List.take_append_drop] at h
theorem blk_some {t : Task} {now : Int} (h : (blkR t now).2 = 0) (h0 : (blkR t now).1 ≠ []) : BlkOk t now (blkR t now).1 := by
  obtain ⟨h1, h2⟩ := blk_at h
  have hck := atE_chk h1
  have hok := task_ok hck
  have hn := (atE_ok h1).2
  rw [h2] at h0 ⊢
  cases hq : blkO t now with
  | none => rw [hq] at h0; exact absurd rfl h0
  | some g =>
    have hb := bestL_best (blkP t now) (bitSets (wetL t))
    have hb2 : Best (blkP t now) (bitSets (wetL t)) (some g) := by rw [← hq]; exact hb
    obtain ⟨b1, b2, b3⟩ := hb2
    have hsub := (mem_bitSets.1 b1).1
    have hfew : (plT t now).slots (chL t) g < g.length := of_decide_eq_true b2
    refine ⟨hsub, hfew, ?_, fun i hi => ?_⟩
    · rcases hall_law hck hn hsub with k | k
      · have k2 : (g.length : Int) ≤ (plT t now).slots (chL t) g := k
        omega
      · exact k
    · show ((g.take i ++ g.drop (i + 1)).length : Int) ≤ (plT t now).slots (chL t) (g.take i ++ g.drop (i + 1))
      have hi : i < g.length := hi
      by_cases he : g.take i ++ g.drop (i + 1) = []
      · rw [he]; exact slots_pos hok now []
      · have h4 := b3 _ (mem_bitSets.2 ⟨(cut_sub i).trans hsub, he⟩)
        by_cases hp : blkP t now (g.take i ++ g.drop (i + 1)) = true
        · have := h4 hp
          have hlen : (g.take i ++ g.drop (i + 1)).length < g.length := by
            rw [List.length_append, List.length_take, List.length_drop]; omega
          unfold befB at this
          rw [Bool.or_eq_false_iff, decide_eq_false_iff_not] at this
          exact absurd hlen this.1
        · unfold blkP at hp
          rw [decide_eq_true_eq] at hp
          omega
/-- The task with some of its towns alone. -/
def subT (t : Task) (l : List Int) : Task := ⟨t.polders, t.chans, l.map (twn t), t.floods⟩
theorem twn_mem {t : Task} {i : Int} (hi : 0 ≤ i ∧ i < t.towns.length) : twn t i ∈ t.towns := List.mem_of_getElem? (twn_i hi)
theorem subT_chk {t : Task} (h : ChkOk t) {l : List Int} (hl : ∀ i ∈ l, 0 ≤ i ∧ i < t.towns.length) (hn : l.Nodup) (h8 : l.length ≤ 8) : ChkOk (subT t l) where
  pol := h.pol
  nch := h.nch
  chs := h.chs
  chn := h.chn
  ntw := by show ¬ (8 : Int) < ((l.map (twn t)).length : Nat); rw [List.length_map]; omega
  tws := fun x hx => by
    obtain ⟨i, hi, rfl⟩ := List.mem_map.1 hx
    exact h.tws _ (twn_mem (hl i hi))
  twn := by
    show ((l.map (twn t)).map (·.name)).Nodup
    rw [List.map_map]
    refine List.pairwise_map.2 ((List.Pairwise.and_mem.1 hn).imp ?_)
    rintro a b ⟨ha, hb, hab⟩ e
    have hna := twn_i (hl a ha)
    have hnb := twn_i (hl b hb)
    have hga := List.getElem?_eq_some_iff.1 hna
    have hgb := List.getElem?_eq_some_iff.1 hnb
    have e2 : (twn t a).name = (twn t b).name := e
    have key : ∀ p q : Nat, (hp : p < t.towns.length) → (hq : q < t.towns.length) → p < q → t.towns[p].name ≠ t.towns[q].name := fun p q hp hq hpq => by
      have := List.pairwise_iff_getElem.1 h.twn p q (by simpa using hp) (by simpa using hq) hpq
      simpa using this
    have h1 := hl a ha
    have h2 := hl b hb
    rcases Nat.lt_trichotomy a.toNat b.toNat with k | k | k
    · exact key _ _ hga.1 hgb.1 k (by rw [hga.2, hgb.2]; exact e2)
    · exact hab (by omega)
    · exact key _ _ hgb.1 hga.1 k (by rw [hga.2, hgb.2]; exact e2.symm)
  nfl := h.nfl
  fls := h.fls
theorem subT_twn {t : Task} {l : List Int} {j : Nat} {i : Int} (h : l[j]? = some i) : twn (subT t l) (j : Int) = twn t i := by
  refine twn_at ?_
  show (l.map (twn t))[j]? = _
  rw [List.getElem?_map, h]; rfl
theorem subT_arr {t : Task} {l : List Int} {j : Nat} {i : Int} (h : l[j]? = some i) : arr (subT t l) (j : Int) = arr t i := by
  unfold arr; rw [subT_twn h]; rfl
theorem subT_wet {t : Task} {l : List Int} (hl : ∀ i ∈ l, i ∈ wetL t) : wetL (subT t l) = idxL (subT t l) := by
  unfold wetL
  rw [List.filter_eq_self]
  intro j hj
  obtain ⟨h1, h2⟩ := mem_idxL.1 hj
  have h3 : j < (l.length : Int) := by
    have : ((subT t l).towns.length : Int) = l.length := by show ((l.map (twn t)).length : Int) = _; rw [List.length_map]
    omega
  obtain ⟨k, rfl⟩ := Int.eq_ofNat_of_zero_le h1
  have hk : k < l.length := by omega
  have := hl _ (List.getElem_mem hk)
  rw [subT_arr (List.getElem?_eq_getElem hk)]
  exact decide_eq_true (mem_wetL.1 this).2
theorem subT_cnt {t : Task} {l : List Int} (now c : Int) : (plT (subT t l) now).cnt c (idxL (subT t l)) = (plT t now).cnt c l := by
  have hlen : (subT t l).towns.length = l.length := by show (l.map (twn t)).length = _; rw [List.length_map]
  have key : ∀ (js : List Nat) (m : Int), (∀ j ∈ js, j < l.length) →
      (js.map Int.ofNat).foldl (fun m i => if c ∈ (plT (subT t l) now).chans i then max m ((plT (subT t l) now).latest i c - (plT (subT t l) now).now + 1) else m) m =
      (js.map fun j => l.getD j 0).foldl (fun m i => if c ∈ (plT t now).chans i then max m ((plT t now).latest i c - (plT t now).now + 1) else m) m := by
    intro js
    induction js with
    | nil => intro m _; rfl
    | cons j js ih =>
      intro m h
      have hj := h j (List.mem_cons_self ..)
      have hg : l[j]? = some (l.getD j 0) := by rw [List.getD_eq_getElem?_getD, List.getElem?_eq_getElem hj]; rfl
      have e1 : (plT (subT t l) now).chans (Int.ofNat j) = (plT t now).chans (l.getD j 0) := by
        show (twn (subT t l) (j : Int)).chans = (twn t (l.getD j 0)).chans
        rw [subT_twn hg]
      have e2 : (plT (subT t l) now).latest (Int.ofNat j) c = (plT t now).latest (l.getD j 0) c := by
        show latestF (subT t l) (j : Int) c = latestF t (l.getD j 0) c
        unfold latestF actF
        rw [subT_twn hg, subT_arr hg]; rfl
      have e3 : (plT (subT t l) now).now = (plT t now).now := rfl
      rw [List.map_cons, List.map_cons, List.foldl_cons, List.foldl_cons, e1, e2, e3]
      exact ih _ fun k hk => h k (List.mem_cons_of_mem _ hk)
  have e : (List.range l.length).map (fun j => l.getD j 0) = l := by
    apply List.ext_getElem
    · simp
    · intro k h1 h2
      simp [List.getD, h2]
  unfold Pl.cnt idxL
  rw [hlen, key _ 0 (fun j hj => List.mem_range.1 hj), e]
theorem subT_slots {t : Task} {l : List Int} (now : Int) : (plT (subT t l) now).slots (chL (subT t l)) (idxL (subT t l)) = (plT t now).slots (chL t) l := by
  unfold Pl.slots
  have : chL (subT t l) = chL t := rfl
  rw [this]
  congr 1
  refine List.map_congr_left fun c _ => ?_
  rw [subT_cnt]; rfl
theorem blk_sub {t : Task} {now : Int} {l : List Int} (hck : (checkA t).2.2 = 0) (hn : 0 ≤ now ∧ now ≤ 200000) (h : BlkOk t now l) : (checkA (subT t l)).2.2 = 0 ∧ (planR (subT t l) now).2 = 9 := by
  have hok := task_ok hck
  have h8 : l.length ≤ 8 := Nat.le_trans h.sub.length_le (Nat.le_trans (wetL_len t) hok.ntw)
  have hc := chk_iff.2 (subT_chk (chk_iff.1 hck) (l := l) (fun i hi => wet_mem (h.sub.subset hi)) ((wetL_nod t).sublist h.sub) h8)
  refine ⟨hc, ?_⟩
  have hw := subT_wet (t := t) (l := l) fun i hi => h.sub.subset hi
  rcases hall_law hc hn (List.Sublist.refl (wetL (subT t l))) with k | k
  · exfalso
    rw [hw, subT_slots, idxL_len] at k
    have : ((subT t l).towns.length : Int) = l.length := by show ((l.map (twn t)).length : Int) = _; rw [List.length_map]
    have := h.few
    omega
  · exact k
theorem ints_cut {w : World} {a : Option Addr} {cap i : Nat} {l : List Int} (h : Sl w 1 RInt (.slice a l.length cap) l) (hi : i < l.length) :
    (0 < i → ∃ b o, a = some ⟨b, o, none⟩ ∧ Cells w b o ((l.take i).flatMap encI)) ∧ (0 < l.length - (i + 1) → ∃ b o, fromA a cap (i + 1) 1 = some ⟨b, o, none⟩ ∧ Cells w b o ((l.drop (i + 1)).flatMap encI)) := by
  obtain ⟨c1, c2, r1, r2, n1, n2⟩ := sl_cut h hi
  rw [← rows_ints r1, ← rows_ints r2]
  exact ⟨n1, n2⟩
theorem int_if {w : World} {a : Option Addr} {cap : Nat} {l : List Int} (h : Sl w 1 RInt (.slice a l.length cap) l) (k : Nat) (hk : k ≤ l.length) : ∃ z b o, 0 < (k : Int) → a = some ⟨b, o, none⟩ ∧ Cells w b (o + ((k : Int) - 1).toNat * 1) [.int .i64 z] ∧ l[k - 1]? = some z := by
  by_cases h0 : 0 < (k : Int)
  · obtain ⟨m, rfl⟩ : ∃ m, k = m + 1 := ⟨k - 1, by omega⟩
    obtain ⟨z, hz, -⟩ := drop_of (l := l) (k := m) (by omega)
    obtain ⟨b, o, cs, ha, -, hc, hR, -⟩ := sl_at h hz
    obtain ⟨rfl, -⟩ := hR
    rw [show (((m + 1 : Nat) : Int) - 1).toNat = m by omega]
    exact ⟨z, b, o, fun _ => ⟨ha, hc, hz⟩⟩
  · exact ⟨0, 0, 0, fun k => absurd k h0⟩
theorem asc_prev {l : List Int} (h : l.Pairwise (· < ·)) {k : Nat} {x z : Int} (hx : l[k]? = some x) (hk : 0 < (k : Int)) (hz : l[k - 1]? = some z) : z < x := by
  obtain ⟨h1, e1⟩ := List.getElem?_eq_some_iff.1 hx
  obtain ⟨h2, e2⟩ := List.getElem?_eq_some_iff.1 hz
  have := List.pairwise_iff_getElem.1 h (k - 1) k h2 h1 (by omega)
  omega
end Bx

/- part Aw47 -/
namespace Go.Proofs.YtmoilbakmlekbaaGreatDoor
open Go Bx
set_option maxHeartbeats 4000000 in
/-- barrage/barragelaw11.AlarmBlocked -/
theorem w_AlarmBlocked {t : Task} {cs : List Value} {now : Int} {w0 : World} (hg : Glb w0) (h : RTask w0 cs t) (_ : I64 now) : CV Tryz.prog 14 #[.agg cs.toArray, .int .i64 now] w0 (.bool true) := by
  obtain ⟨hv, nv, fv, rfl, hpol, hsh, hsn, hsf⟩ := id h
  obtain ⟨a1, cap1, rfl, hcap1, hmx1, hel1⟩ := id hsh
  obtain ⟨a2, cap2, rfl, hcap2, hmx2, hel2⟩ := id hsn
  obtain ⟨a3, cap3, rfl, hcap3, hmx3, hel3⟩ := id hsf
  refine enter Tryz.func14 rfl Tryz.ntmps14 rfl ?_
  have hS := St.start w0
  refine seq ?_
  refine region ?_
  refine sbox hS rfl rfl ?_; clear hS; intro b2 w hS
  refine sv (yAsg rfl) ?_
  refine nil ?_
  show Code.wp _ _ _ _ _
  refine seq ?_
  refine region ?_
  refine sv (yLdBA rfl Tryz.isAgg26 Tryz.sizeOf26 (hS.at _) rfl rfl) ?_
  refine sv (yMove rfl) ?_
  refine scall Tryz.call18 (.cons rfl (.cons rfl .nil)) (c_Plan (hg.ext hS.ext) (h.ext hS.ext)) ?_
  rintro _ w ⟨pv, rfl, hM⟩; replace hS := hS.step hM.ext; clear hM
  refine sv (yMove rfl) ?_
  refine sv (yExt rfl rfl) ?_
  refine sv (yExt rfl rfl) ?_
  refine sv (yAsg rfl) ?_
  refine sv (yAsg rfl) ?_
  refine nil ?_
  show Code.wp _ _ _ _ _
  refine seq ?_
  refine region ?_
  refine sv (yLdBA rfl Tryz.isAgg26 Tryz.sizeOf26 (hS.at _) rfl rfl) ?_
  refine sv (yMove rfl) ?_
  refine scall Tryz.call39 (.cons rfl (.cons rfl .nil)) (c_Blocked (hg.ext hS.ext) (h.ext hS.ext)) ?_
  rintro _ w ⟨bv, rfl, hK, hE⟩; replace hS := hS.step hE; clear hE
  have hb2 : w.heap[b2]? = some (.cells [.int .i64 t.polders, .slice a1 t.chans.length cap1, .slice a2 t.towns.length cap2, .slice a3 t.floods.length cap3].toArray 26 (0, 0)) := hS.at b2
  have hE0 := hS.ext
  have hT := h.ext hE0
  have hgZ := hg.ext hE0
  replace hsh := hsh.ext RChan.stays hE0
  replace hsn := hsn.ext RTown.stays hE0
  replace hsf := hsf.ext RRow.stays hE0
  clear h hel1 hel2 hel3
  obtain ⟨ab, cb, rfl, -⟩ := id hK
  obtain ⟨w0, hwq⟩ : ∃ wq, wq = w := ⟨w, rfl⟩
  rw [← hwq] at hE0 hb2 hT hgZ hsh hsn hsf hK
  replace hS : StX [] w0 w [] := by rw [hwq]; exact St.start w
  clear hwq
  refine sv (yMove rfl) ?_
  refine sv (yExt rfl rfl) ?_
  refine sv (yExt rfl rfl) ?_
  refine sv (yAsg rfl) ?_
  refine sv (yAsg rfl) ?_
  refine nil ?_
  show Code.wp _ _ _ _ _
  refine seq ?_
  refine seq ?_
  refine region ?_
  refine sv (yMove rfl) ?_
  refine sv (yNeq rfl rfl) ?_
  refine nil ?_
  show Code.wp _ _ _ _ _
  refine cond rfl (fun c28 => ?_) (fun c28 => ?_)
  ·
    simp only [Bool.and_eq_true, Bool.or_eq_true, Bool.and_eq_false_iff, Bool.or_eq_false_iff, decide_eq_true_eq, decide_eq_false_iff_not, Bool.not_eq_true, Bool.not_eq_false, Bool.not_not, Bool.not_eq_eq_eq_not, Bool.not_true, Bool.not_false, Bool.false_eq_true, Bool.true_eq_false, ne_eq, Decidable.not_not, not_false_eq_true, not_true_eq_false] at c28
    refine seq ?_
    refine region ?_
    refine sv (yMove rfl) ?_
    refine sv (yMove rfl) ?_
    refine sv (yEql rfl rfl) ?_
    refine sv (yMove rfl) ?_
    refine sgc hS rfl rfl rfl Tryz.call20 (fun g => .nil) (fun g => (c_Awake (hgZ.ext hS.ext))) ?_; clear hS; intro v33 w hS g33
    refine sv (yAnd rfl (fun hB => (g33.1 hB)) rfl) ?_
    refine sv (yAsg rfl) ?_
    refine nil ?_
    show Code.wp _ _ _ _ _
    refine wp_ret (thenR ?_)
    exact retV (res1 rfl (eqB (by rw [blk_err c28]; simp))) (hE0.trans hS.ext)
  ·
    simp only [Bool.and_eq_true, Bool.or_eq_true, Bool.and_eq_false_iff, Bool.or_eq_false_iff, decide_eq_true_eq, decide_eq_false_iff_not, Bool.not_eq_true, Bool.not_eq_false, Bool.not_not, Bool.not_eq_eq_eq_not, Bool.not_true, Bool.not_false, Bool.false_eq_true, Bool.true_eq_false, ne_eq, Decidable.not_not, not_false_eq_true, not_true_eq_false] at c28
    obtain ⟨hat, -⟩ := blk_at c28
    have hck := atE_chk hat
    have hok := task_ok hck
    have hn := (atE_ok hat).2
    have hn8 := hok.ntw
    refine skip ?_
    show Code.wp _ _ _ _ _
    refine seq ?_
    refine seq ?_
    refine region ?_
    refine sv (yMove rfl) ?_
    refine sv (yLen rfl Tryz.underlying34) ?_
    refine sv (yEql rfl rfl) ?_
    refine nil ?_
    show Code.wp _ _ _ _ _
    refine cond rfl (fun c37 => ?_) (fun c37 => ?_)
    ·
      simp only [Bool.and_eq_true, Bool.or_eq_true, Bool.and_eq_false_iff, Bool.or_eq_false_iff, decide_eq_true_eq, decide_eq_false_iff_not, Bool.not_eq_true, Bool.not_eq_false, Bool.not_not, Bool.not_eq_eq_eq_not, Bool.not_true, Bool.not_false, Bool.false_eq_true, Bool.true_eq_false, ne_eq, Decidable.not_not, not_false_eq_true, not_true_eq_false] at c37
      refine seq ?_
      refine region ?_
      refine sv (yMove rfl) ?_
      refine sv (yEql rfl rfl) ?_
      refine sv (yMove rfl) ?_
      refine sgc hS rfl rfl rfl Tryz.call20 (fun g => .nil) (fun g => (c_Awake (hgZ.ext hS.ext))) ?_; clear hS; intro v41 w hS g41
      refine sv (yAnd rfl (fun hB => (g41.1 hB)) rfl) ?_
      refine sv (yAsg rfl) ?_
      refine nil ?_
      show Code.wp _ _ _ _ _
      refine wp_ret (thenR ?_)
      exact retV (res1 rfl (eqB (by rw [blk_nil c28 (List.eq_nil_of_length_eq_zero (by omega))]; simp))) (hE0.trans hS.ext)
    ·
      simp only [Bool.and_eq_true, Bool.or_eq_true, Bool.and_eq_false_iff, Bool.or_eq_false_iff, decide_eq_true_eq, decide_eq_false_iff_not, Bool.not_eq_true, Bool.not_eq_false, Bool.not_not, Bool.not_eq_eq_eq_not, Bool.not_true, Bool.not_false, Bool.false_eq_true, Bool.true_eq_false, ne_eq, Decidable.not_not, not_false_eq_true, not_true_eq_false] at c37
      have hbo := blk_some c28 (fun hh => c37 (by rw [hh]; rfl))
      have hbm : ∀ x ∈ (blkR t now).1, 0 ≤ x ∧ x < t.towns.length := fun x hx => wet_mem (hbo.sub.subset hx)
      have hb8 : (blkR t now).1.length ≤ 8 := by have := hbo.sub.length_le; have := wetL_len t; omega
      have hfew := hbo.few
      have hasc := (wetL_asc t).sublist hbo.sub
      have hpl := hbo.plan
      refine skip ?_
      show Code.wp _ _ _ _ _
      refine seq ?_
      refine seq ?_
      refine region ?_
      refine sv (yMove rfl) ?_
      refine sv (yNeq rfl rfl) ?_
      refine sv (yMove rfl) ?_
      refine sg rfl rfl rfl (fun g => (yLdBA rfl Tryz.isAgg26 Tryz.sizeOf26 (hS.ext.get hb2) rfl rfl)) (fun v46 g46 => ?_)
      refine sg rfl rfl rfl (fun g => (yMove rfl)) (fun v47 g47 => ?_)
      refine sg rfl rfl rfl (fun g => (yMove rfl)) (fun v48 g48 => ?_)
      refine sgc hS rfl rfl rfl Tryz.call27 (fun g => (.cons (g46.1 g) (.cons (g47.1 g) (.cons (g48.1 g) .nil)))) (fun g => (c_slotsL (hgZ.ext hS.ext) (hT.ext hS.ext) hck hn (hK.ext RInt.stays hS.ext) hbm)) ?_; clear hS; intro v49 w hS g49
      refine sg rfl rfl rfl (fun g => (yMove rfl)) (fun v50 g50 => ?_)
      refine sg rfl rfl rfl (fun g => (yLen (g50.1 g) Tryz.underlying34)) (fun v51 g51 => ?_)
      refine sg rfl rfl rfl (fun g => (yGeq (g49.1 g) (g51.1 g))) (fun v52 g52 => ?_)
      refine sv (yOr rfl rfl (fun hB => (g52.1 hB))) ?_
      refine nil ?_
      show Code.wp _ _ _ _ _
      refine cond rfl (fun c53 => ?_) (fun c53 => ?_)
      ·
        simp only [Bool.and_eq_true, Bool.or_eq_true, Bool.and_eq_false_iff, Bool.or_eq_false_iff, decide_eq_true_eq, decide_eq_false_iff_not, Bool.not_eq_true, Bool.not_eq_false, Bool.not_not, Bool.not_eq_eq_eq_not, Bool.not_true, Bool.not_false, Bool.false_eq_true, Bool.true_eq_false, ne_eq, Decidable.not_not, not_false_eq_true, not_true_eq_false] at c53
        exfalso; omega
      ·
        simp only [Bool.and_eq_true, Bool.or_eq_true, Bool.and_eq_false_iff, Bool.or_eq_false_iff, decide_eq_true_eq, decide_eq_false_iff_not, Bool.not_eq_true, Bool.not_eq_false, Bool.not_not, Bool.not_eq_eq_eq_not, Bool.not_true, Bool.not_false, Bool.false_eq_true, Bool.true_eq_false, ne_eq, Decidable.not_not, not_false_eq_true, not_true_eq_false] at c53
        refine skip ?_
        show Code.wp _ _ _ _ _
        refine seq ?_
        refine region ?_
        refine sv (yLdBA rfl Tryz.isAgg26 Tryz.sizeOf26 (hS.ext.get hb2) rfl rfl) ?_
        refine salloc hS Tryz.zeroValue26 rfl ?_; clear hS; intro b9 w hS
        refine sst hS rfl rfl Tryz.sizeOf26 rfl rfl rfl rfl ?_; clear hS; intro w hS
        refine nil ?_
        show Code.wp _ _ _ _ _
        refine seq ?_
        refine region ?_
        refine sv (fa26_2 rfl) ?_
        refine sst hS rfl rfl Tryz.sizeOf23 rfl rfl rfl rfl ?_; clear hS; intro w hS
        refine nil ?_
        show Code.wp _ _ _ _ _
        refine seq ?_
        refine seq ?_
        refine region ?_
        refine sv (yAsg rfl) ?_
        refine nil ?_
        show Code.wp _ _ _ _ _
        refine block ?_
        refine loop (fun f w zz => ∃ (i : Nat) (tv : Value) (css : LLW), f 1 = .int .i64 now ∧ f 2 = .pointer (some ⟨b2, 0, none⟩) ∧ f 7 = .slice ab (blkR t now).1.length cb ∧ f 9 = .pointer (some ⟨b9, 0, none⟩) ∧ f 10 = .int .i64 (i : Int) ∧ StX [] w0 w [rowI tv 36 5 i css.flatten, blk b9 [.int .i64 t.polders, .slice a1 t.chans.length cap1, tv, .slice a3 t.floods.length cap3] 26] ∧ (i ≤ (blkR t now).1.length) ∧ (Bx.Rows w0 5 RTown css (((blkR t now).1.take i).map (twn t))) ∧ zz = (blkR t now).1.length - i) _ ⟨_, rfl, 0, _, [], rfl, rfl, rfl, rfl, rfl, (hS.nilrow 36 5), (Nat.zero_le _), (trivial), rfl⟩ ?_
        clear hS
        rintro f w _ ⟨i, tv, css, h1, h2, h7, h9, h10, hS, hi, hrow, rfl⟩
        refine seq ?_
        refine seq ?_
        refine region ?_
        refine sv (yMove h10) ?_
        refine sv (yMove h7) ?_
        refine sv (yLen rfl Tryz.underlying34) ?_
        refine sv (yLss rfl rfl) ?_
        refine nil ?_
        show Code.wp _ _ _ _ _
        refine cond rfl (fun c59 => ?_) (fun c59 => ?_)
        ·
          simp only [Bool.and_eq_true, Bool.or_eq_true, Bool.and_eq_false_iff, Bool.or_eq_false_iff, decide_eq_true_eq, decide_eq_false_iff_not, Bool.not_eq_true, Bool.not_eq_false, Bool.not_not, Bool.not_eq_eq_eq_not, Bool.not_true, Bool.not_false, Bool.false_eq_true, Bool.true_eq_false, ne_eq, Decidable.not_not, not_false_eq_true, not_true_eq_false] at c59
          obtain ⟨x, hx, -⟩ := drop_of (l := (blkR t now).1) (k := i) (by omega)
          obtain ⟨bx, ox, cx, hax, hlx, hcx, hRx, -⟩ := sl_at hK hx
          obtain ⟨rfl, -⟩ := hRx
          have hxm := List.mem_of_getElem? hx
          have hib := hbm x hxm
          have hxw := (mem_wetL.1 (hbo.sub.subset hxm)).2
          obtain ⟨bt, ot, cst, hat2, hlt, hcst, hRt0, -⟩ := sl_at hsn (twn_i (t := t) hib)
          obtain ⟨e0, he0, ha0⟩ : ∃ e0 : Int, e0 = 0 ∧ arrR t x = (arr t x, e0) := ⟨0, rfl, arrR_of hck hib⟩
          obtain ⟨yp, by2, oy, hay⟩ := int_if hK i hi
          have hprev : 0 < (i : Int) → yp < x := fun hh => asc_prev hasc hx hh (hay hh).2.2
          refine skip ?_
          show Code.wp _ _ _ _ _
          refine seq ?_
          refine block ?_
          refine seqJ (n := 152) (fun f w => ∃ (b11 : Nat), f 1 = .int .i64 now ∧ f 2 = .pointer (some ⟨b2, 0, none⟩) ∧ f 7 = .slice ab (blkR t now).1.length cb ∧ f 9 = .pointer (some ⟨b9, 0, none⟩) ∧ f 10 = .int .i64 (i : Int) ∧ f 12 = .int .i64 (arr t x).2 ∧ f 13 = .int .i64 e0 ∧ StX [] w0 w [blk b11 (spanC (arr t x).1) 44, rowI tv 36 5 i css.flatten, blk b9 [.int .i64 t.polders, .slice a1 t.chans.length cap1, tv, .slice a3 t.floods.length cap3] 26] ∧ True) ?_ ?_
          ·
            refine region_mix (fun w => StX [] w0 w []) 14 mixed hS ?_
            clear hS; intro w hS
            refine f_step 0 (by kernel_rfl) rfl (fun c a a' w h => by obtain ⟨_, v, hv, _⟩ := h; cases hv) (hS.sub (List.nil_sublist _)) (fun w hS => (yLdBA h2 Tryz.isAgg26 Tryz.sizeOf26 (hS.ext.get hb2) rfl rfl)) ?_
            refine f_step 1 (by kernel_rfl) rfl (fun c a a' w h => by obtain ⟨_, v, hv, _⟩ := h; cases hv) (hS.sub (List.nil_sublist _)) (fun w hS => (yMove h7)) ?_
            refine f_step 2 (by kernel_rfl) rfl (fun c a a' w h => by obtain ⟨_, v, hv, _⟩ := h; cases hv) (hS.sub (List.nil_sublist _)) (fun w hS => (yMove h10)) ?_
            refine f_step 3 (by kernel_rfl) rfl (fun c a a' w h => by obtain ⟨_, v, hv, _⟩ := h; cases hv) (hS.sub (List.nil_sublist _)) (fun w hS => (yIxa rfl hax rfl Tryz.runUnderlying34 Tryz.sizeOf3 (by omega) (by omega))) ?_
            refine f_step 4 (by kernel_rfl) rfl (fun c a a' w h => by obtain ⟨_, v, hv, _⟩ := h; cases hv) (hS.sub (List.nil_sublist _)) (fun w hS => (yLd rfl Tryz.isAgg3 ((hcx.ext hS.ext).one))) ?_
            show wpA _ _ _ _ _ _ _ _ _ _
            refine a_step (i := 5) (is := [10]) (by kernel_rfl) ⟨?_, ?_, trivial⟩
            ·
              refine ⟨_, rfl, ?_⟩
              refine scall Tryz.call23 (.cons rfl (.cons rfl .nil)) (c_Arrival (hgZ.ext hS.ext) (hT.ext hS.ext)) ?_
              rw [ha0]
              rintro _ w ⟨rfl, hE⟩; replace hS := hS.step hE; clear hE
              refine nil ?_
              refine ⟨fun _ => (hS.sub (List.nil_sublist _)), ?_⟩
              show wpA _ _ _ _ _ _ _ _ _ _
              refine f_step 6 (by kernel_rfl) rfl (fun c a a' w h => by obtain ⟨_, v, hv, _⟩ := h; cases hv) (hS.sub (List.nil_sublist _)) (fun w hS => (yMove rfl)) ?_
              refine f_step 7 (by kernel_rfl) rfl (fun c a a' w h => by obtain ⟨_, v, hv, _⟩ := h; cases hv) (hS.sub (List.nil_sublist _)) (fun w hS => (yExt rfl rfl)) ?_
              refine f_step 8 (by kernel_rfl) rfl (fun c a a' w h => by obtain ⟨_, v, hv, _⟩ := h; cases hv) (hS.sub (List.nil_sublist _)) (fun w hS => (yExt rfl rfl)) ?_
              refine f_step 9 (by kernel_rfl) rfl (fun c a a' w h => by obtain ⟨_, v, hv, _⟩ := h; cases hv) (hS.sub (List.nil_sublist _)) (fun w hS => (yExt rfl rfl)) ?_
              show wpA _ _ _ _ _ _ _ _ _ _
              refine a_step (i := 10) (is := []) (by kernel_rfl) ⟨?_, trivial⟩
              refine ⟨_, rfl, ?_⟩
              refine salloc hS Tryz.zeroValue44 rfl ?_; clear hS; intro b11 w hS
              refine nil ?_
              refine ⟨fun _ => (hS.sub (List.nil_sublist _)), ?_⟩
              show wpA _ _ _ _ _ _ _ _ _ _
              show wpA _ _ _ _ _ _ _ _ _ _
              refine a_step (i := 11) (is := []) (by kernel_rfl) ⟨?_, trivial⟩
              refine ⟨_, rfl, ?_⟩
              refine sst hS rfl rfl Tryz.sizeOf44 rfl rfl rfl rfl ?_; clear hS; intro w hS
              refine nil ?_
              refine ⟨fun _ => (hS.sub (List.nil_sublist _)), ?_⟩
              show wpA _ _ _ _ _ _ _ _ _ _
              refine f_step 12 (by kernel_rfl) rfl (fun c a a' w h => by obtain ⟨_, v, hv, _⟩ := h; cases hv) (hS.sub (List.nil_sublist _)) (fun w hS => (yAsg rfl)) ?_
              refine f_step 13 (by kernel_rfl) rfl (fun c a a' w h => by obtain ⟨_, v, hv, _⟩ := h; cases hv) (hS.sub (List.nil_sublist _)) (fun w hS => (yAsg rfl)) ?_
              refine a_end (by kernel_rfl) ?_
              exact ⟨_, rfl, b11, h1, h2, h7, h9, h10, rfl, rfl, hS, trivial⟩
            ·
              refine ⟨_, rfl, ?_⟩
              refine salloc hS Tryz.zeroValue44 rfl ?_; clear hS; intro b11 w hS
              refine nil ?_
              refine ⟨fun _ => (hS.sub (List.nil_sublist _)), ?_⟩
              show wpA _ _ _ _ _ _ _ _ _ _
              show wpA _ _ _ _ _ _ _ _ _ _
              refine a_step (i := 5) (is := []) (by kernel_rfl) ⟨?_, trivial⟩
              refine ⟨_, rfl, ?_⟩
              refine scall Tryz.call23 (.cons rfl (.cons rfl .nil)) (c_Arrival (hgZ.ext hS.ext) (hT.ext hS.ext)) ?_
              rw [ha0]
              rintro _ w ⟨rfl, hE⟩; replace hS := hS.step hE; clear hE
              refine nil ?_
              refine ⟨fun _ => (hS.sub (List.nil_sublist _)), ?_⟩
              show wpA _ _ _ _ _ _ _ _ _ _
              refine f_step 6 (by kernel_rfl) rfl (fun c a a' w h => by obtain ⟨_, v, hv, _⟩ := h; cases hv) (hS.sub (List.nil_sublist _)) (fun w hS => (yMove rfl)) ?_
              refine f_step 7 (by kernel_rfl) rfl (fun c a a' w h => by obtain ⟨_, v, hv, _⟩ := h; cases hv) (hS.sub (List.nil_sublist _)) (fun w hS => (yExt rfl rfl)) ?_
              refine f_step 8 (by kernel_rfl) rfl (fun c a a' w h => by obtain ⟨_, v, hv, _⟩ := h; cases hv) (hS.sub (List.nil_sublist _)) (fun w hS => (yExt rfl rfl)) ?_
              refine f_step 9 (by kernel_rfl) rfl (fun c a a' w h => by obtain ⟨_, v, hv, _⟩ := h; cases hv) (hS.sub (List.nil_sublist _)) (fun w hS => (yExt rfl rfl)) ?_
              show wpA _ _ _ _ _ _ _ _ _ _
              refine a_step (i := 11) (is := []) (by kernel_rfl) ⟨?_, trivial⟩
              refine ⟨_, rfl, ?_⟩
              refine sst hS rfl rfl Tryz.sizeOf44 rfl rfl rfl rfl ?_; clear hS; intro w hS
              refine nil ?_
              refine ⟨fun _ => (hS.sub (List.nil_sublist _)), ?_⟩
              show wpA _ _ _ _ _ _ _ _ _ _
              refine f_step 12 (by kernel_rfl) rfl (fun c a a' w h => by obtain ⟨_, v, hv, _⟩ := h; cases hv) (hS.sub (List.nil_sublist _)) (fun w hS => (yAsg rfl)) ?_
              refine f_step 13 (by kernel_rfl) rfl (fun c a a' w h => by obtain ⟨_, v, hv, _⟩ := h; cases hv) (hS.sub (List.nil_sublist _)) (fun w hS => (yAsg rfl)) ?_
              refine a_end (by kernel_rfl) ?_
              exact ⟨_, rfl, b11, h1, h2, h7, h9, h10, rfl, rfl, hS, trivial⟩
          ·
            clear hS; rintro f w ⟨b11, h1, h2, h7, h9, h10, h12, h13, hS, -⟩
            refine seq ?_
            refine seq ?_
            refine region_draw mixed (by kernel_rfl) hS ?_
            refine qv (fun w hS => (yMove h13)) ?_
            refine qv (fun w hS => (yNeq rfl rfl)) ?_
            refine qv (fun w hS => (yMove rfl)) ?_
            refine qg rfl rfl rfl (fun g w hS => (yMove h12)) (fun v75 g75 => ?_)
            refine qg rfl rfl rfl (fun g w hS => (yEql (g75.1 g) rfl)) (fun v76 g76 => ?_)
            refine qv (fun w hS => (yOr rfl rfl (fun hB => (g76.1 hB)))) ?_
            refine qv (fun w hS => (yMove rfl)) ?_
            refine qg rfl rfl rfl (fun g w hS => (yMove h7)) (fun v79 g79 => ?_)
            refine qg rfl rfl rfl (fun g w hS => (yMove h10)) (fun v80 g80 => ?_)
            refine qg rfl rfl rfl (fun g w hS => (yIxa (g79.1 g) hax (g80.1 g) Tryz.runUnderlying34 Tryz.sizeOf3 (by omega) (by omega))) (fun v81 g81 => ?_)
            refine qg rfl rfl rfl (fun g w hS => (yLd (g81.1 g) Tryz.isAgg3 ((hcx.ext hS.ext).one))) (fun v82 g82 => ?_)
            refine qg rfl rfl rfl (fun g w hS => (yLss (g82.1 g) rfl)) (fun v83 g83 => ?_)
            refine qv (fun w hS => (yOr rfl rfl (fun hB => (g83.1 hB)))) ?_
            refine qv (fun w hS => (yMove rfl)) ?_
            refine qg rfl rfl rfl (fun g w hS => (yMove h7)) (fun v86 g86 => ?_)
            refine qg rfl rfl rfl (fun g w hS => (yMove h10)) (fun v87 g87 => ?_)
            refine qg rfl rfl rfl (fun g w hS => (yIxa (g86.1 g) hax (g87.1 g) Tryz.runUnderlying34 Tryz.sizeOf3 (by omega) (by omega))) (fun v88 g88 => ?_)
            refine qg rfl rfl rfl (fun g w hS => (yLd (g88.1 g) Tryz.isAgg3 ((hcx.ext hS.ext).one))) (fun v89 g89 => ?_)
            refine qg rfl rfl rfl (fun g w hS => (fa26_2 h2)) (fun v90 g90 => ?_)
            refine qg rfl rfl rfl (fun g w hS => (yLdB (g90.1 g) Tryz.isAgg23 (hS.ext.get hb2) rfl)) (fun v91 g91 => ?_)
            refine qg rfl rfl rfl (fun g w hS => (yLen (g91.1 g) Tryz.underlying23)) (fun v92 g92 => ?_)
            refine qg rfl rfl rfl (fun g w hS => (yGeq (g89.1 g) (g92.1 g))) (fun v93 g93 => ?_)
            refine qv (fun w hS => (yOr rfl rfl (fun hB => (g93.1 hB)))) ?_
            refine qv (fun w hS => (yMove rfl)) ?_
            refine qg rfl rfl rfl (fun g w hS => (yMove h10)) (fun v96 g96 => ?_)
            refine qg rfl rfl rfl (fun g w hS => (yGtr (g96.1 g) rfl)) (fun v97 g97 => ?_)
            refine qg rfl rfl rfl (fun g w hS => (yMove (g97.1 g))) (fun v98 g98 => ?_)
            refine qgg rfl rfl g98 (fun g w hS => (yMove h7)) (fun v99 g99 => ?_)
            refine qgg rfl rfl g98 (fun g w hS => (yMove h10)) (fun v100 g100 => ?_)
            refine qgg rfl rfl g98 (fun g w hS => (yIxa (g99.1 g) hax (g100.1 g) Tryz.runUnderlying34 Tryz.sizeOf3 (by omega) (by omega))) (fun v101 g101 => ?_)
            refine qgg rfl rfl g98 (fun g w hS => (yLd (g101.1 g) Tryz.isAgg3 ((hcx.ext hS.ext).one))) (fun v102 g102 => ?_)
            refine qgg rfl rfl g98 (fun g w hS => (yMove h7)) (fun v103 g103 => ?_)
            refine qgg rfl rfl g98 (fun g w hS => (yMove h10)) (fun v104 g104 => ?_)
            refine qgg rfl rfl g98 (fun g w hS => (ySub (g104.1 g) rfl ⟨by omega, by omega⟩)) (fun v105 g105 => ?_)
            refine qgg rfl rfl g98 (fun g w hS => (yIxa (g103.1 g) (hay (of_decide_eq_true g.2)).1 (g105.1 g) Tryz.runUnderlying34 Tryz.sizeOf3 (by have := (of_decide_eq_true g.2); omega) (by have := (of_decide_eq_true g.2); omega))) (fun v106 g106 => ?_)
            refine qgg rfl rfl g98 (fun g w hS => (yLd (g106.1 g) Tryz.isAgg3 (((hay (of_decide_eq_true g.2)).2.1.ext hS.ext).one))) (fun v107 g107 => ?_)
            refine qgg rfl rfl g98 (fun g w hS => (yLeq (g102.1 g) (g107.1 g))) (fun v108 g108 => ?_)
            refine qg rfl rfl rfl (fun g w hS => (yAnd (g98.1 g) (fun hB => (g108.1 ⟨g, hB⟩)) rfl)) (fun v109 g109 => ?_)
            refine qv (fun w hS => (yOr rfl rfl (fun hB => (g109.1 hB)))) ?_
            clear hS; refine qnil (fun w hS => ?_)
            show Code.wp _ _ _ _ _
            refine cond rfl (fun c110 => ?_) (fun c110 => ?_)
            ·
              simp only [Bool.and_eq_true, Bool.or_eq_true, Bool.and_eq_false_iff, Bool.or_eq_false_iff, decide_eq_true_eq, decide_eq_false_iff_not, Bool.not_eq_true, Bool.not_eq_false, Bool.not_not, Bool.not_eq_eq_eq_not, Bool.not_true, Bool.not_false, Bool.false_eq_true, Bool.true_eq_false, ne_eq, Decidable.not_not, not_false_eq_true, not_true_eq_false] at c110
              exfalso; omega
            ·
              simp only [Bool.and_eq_true, Bool.or_eq_true, Bool.and_eq_false_iff, Bool.or_eq_false_iff, decide_eq_true_eq, decide_eq_false_iff_not, Bool.not_eq_true, Bool.not_eq_false, Bool.not_not, Bool.not_eq_eq_eq_not, Bool.not_true, Bool.not_false, Bool.false_eq_true, Bool.true_eq_false, ne_eq, Decidable.not_not, not_false_eq_true, not_true_eq_false] at c110
              refine skip ?_
              show Code.wp _ _ _ _ _
              refine seq ?_
              refine region_mix (fun w => StX [] w0 w [blk b9 [.int .i64 t.polders, .slice a1 t.chans.length cap1, tv, .slice a3 t.floods.length cap3] 26]) 13 mixed hS ?_
              clear hS; intro w hS
              obtain ⟨dvt, hce, hnmt, hpot, htrt, hlet, hslt, hrmt⟩ := id hRt0
              obtain ⟨adt, cdt, rfl, -⟩ := id hslt
              subst hce
              refine f_step 0 (by kernel_rfl) rfl (fun c a a' w h => by obtain ⟨_, v, hv, _⟩ := h; cases hv) (by first | exact hS.sub (.cons _ (List.Sublist.refl _)) | exact hS.sub (.cons _ (.cons _ (List.Sublist.refl _))) | exact hS.sub (.cons _ (.cons _ (.cons _ (List.Sublist.refl _))))) (fun w hS => (fa26_2 h9)) ?_
              refine f_step 1 (by kernel_rfl) rfl (fun c a a' w h => by obtain ⟨_, v, hv, _⟩ := h; cases hv) (by first | exact hS.sub (.cons _ (List.Sublist.refl _)) | exact hS.sub (.cons _ (.cons _ (List.Sublist.refl _))) | exact hS.sub (.cons _ (.cons _ (.cons _ (List.Sublist.refl _))))) (fun w hS => (yLdB rfl Tryz.isAgg23 (hS.at _) rfl)) ?_
              refine f_step 2 (by kernel_rfl) rfl (fun c a a' w h => by obtain ⟨_, v, hv, _⟩ := h; cases hv) (by first | exact hS.sub (.cons _ (List.Sublist.refl _)) | exact hS.sub (.cons _ (.cons _ (List.Sublist.refl _))) | exact hS.sub (.cons _ (.cons _ (.cons _ (List.Sublist.refl _))))) (fun w hS => (fa26_2 h2)) ?_
              refine f_step 3 (by kernel_rfl) rfl (fun c a a' w h => by obtain ⟨_, v, hv, _⟩ := h; cases hv) (by first | exact hS.sub (.cons _ (List.Sublist.refl _)) | exact hS.sub (.cons _ (.cons _ (List.Sublist.refl _))) | exact hS.sub (.cons _ (.cons _ (.cons _ (List.Sublist.refl _))))) (fun w hS => (yLdB rfl Tryz.isAgg23 (hS.ext.get hb2) rfl)) ?_
              refine f_step 4 (by kernel_rfl) rfl (fun c a a' w h => by obtain ⟨_, v, hv, _⟩ := h; cases hv) (by first | exact hS.sub (.cons _ (List.Sublist.refl _)) | exact hS.sub (.cons _ (.cons _ (List.Sublist.refl _))) | exact hS.sub (.cons _ (.cons _ (.cons _ (List.Sublist.refl _))))) (fun w hS => (yMove h7)) ?_
              refine f_step 5 (by kernel_rfl) rfl (fun c a a' w h => by obtain ⟨_, v, hv, _⟩ := h; cases hv) (by first | exact hS.sub (.cons _ (List.Sublist.refl _)) | exact hS.sub (.cons _ (.cons _ (List.Sublist.refl _))) | exact hS.sub (.cons _ (.cons _ (.cons _ (List.Sublist.refl _))))) (fun w hS => (yMove h10)) ?_
              refine f_step 6 (by kernel_rfl) rfl (fun c a a' w h => by obtain ⟨_, v, hv, _⟩ := h; cases hv) (by first | exact hS.sub (.cons _ (List.Sublist.refl _)) | exact hS.sub (.cons _ (.cons _ (List.Sublist.refl _))) | exact hS.sub (.cons _ (.cons _ (.cons _ (List.Sublist.refl _))))) (fun w hS => (yIxa rfl hax rfl Tryz.runUnderlying34 Tryz.sizeOf3 (by omega) (by omega))) ?_
              refine f_step 7 (by kernel_rfl) rfl (fun c a a' w h => by obtain ⟨_, v, hv, _⟩ := h; cases hv) (by first | exact hS.sub (.cons _ (List.Sublist.refl _)) | exact hS.sub (.cons _ (.cons _ (List.Sublist.refl _))) | exact hS.sub (.cons _ (.cons _ (.cons _ (List.Sublist.refl _))))) (fun w hS => (yLd rfl Tryz.isAgg3 ((hcx.ext hS.ext).one))) ?_
              refine f_step 8 (by kernel_rfl) rfl (fun c a a' w h => by obtain ⟨_, v, hv, _⟩ := h; cases hv) (by first | exact hS.sub (.cons _ (List.Sublist.refl _)) | exact hS.sub (.cons _ (.cons _ (List.Sublist.refl _))) | exact hS.sub (.cons _ (.cons _ (.cons _ (List.Sublist.refl _))))) (fun w hS => (yIxa rfl hat2 rfl Tryz.runUnderlying23 Tryz.sizeOf36 (by omega) (by omega))) ?_
              refine f_step 9 (by kernel_rfl) rfl (fun c a a' w h => by obtain ⟨_, v, hv, _⟩ := h; cases hv) (by first | exact hS.sub (.cons _ (List.Sublist.refl _)) | exact hS.sub (.cons _ (.cons _ (List.Sublist.refl _))) | exact hS.sub (.cons _ (.cons _ (.cons _ (List.Sublist.refl _))))) (fun w hS => (yLdA rfl Tryz.isAgg36 Tryz.sizeOf36 (hcst.ext hS.ext) rfl)) ?_
              show wpA _ _ _ _ _ _ _ _ _ _
              refine a_step (i := 10) (is := []) (by kernel_rfl) ⟨?_, trivial⟩
              refine ⟨_, rfl, ?_⟩
              refine sbslice hS Tryz.underlying23 Tryz.sizeOf36 rfl Tryz.zeroValue36 rfl (.cons rfl rfl .nil) rfl ?_; clear hS; intro b121 w hS
              refine nil ?_
              refine ⟨fun _ => (by first | exact hS.sub (.cons _ (List.Sublist.refl _)) | exact hS.sub (.cons _ (.cons _ (List.Sublist.refl _))) | exact hS.sub (.cons _ (.cons _ (.cons _ (List.Sublist.refl _))))), ?_⟩
              show wpA _ _ _ _ _ _ _ _ _ _
              show wpA _ _ _ _ _ _ _ _ _ _
              refine a_step (i := 11) (is := []) (by kernel_rfl) ⟨?_, trivial⟩
              refine ⟨_, rfl, ?_⟩
              refine sapp (bytes := 64) (size := 5) (v := tv) (m := 1) hS rfl rfl Tryz.underlying23 ti36 rfl rfl rfl rfl (by decide) (blk_cells (hS.at _)) rfl rfl (by omega) (by omega) ?_; clear hS; intro v122 w hS
              refine nil ?_
              refine ⟨fun _ => (by first | exact hS.sub (.cons _ (List.Sublist.refl _)) | exact hS.sub (.cons _ (.cons _ (List.Sublist.refl _))) | exact hS.sub (.cons _ (.cons _ (.cons _ (List.Sublist.refl _))))), ?_⟩
              show wpA _ _ _ _ _ _ _ _ _ _
              refine f_step 12 (by kernel_rfl) rfl (fun c a a' w h => by obtain ⟨_, v, hv, _⟩ := h; cases hv) (by first | exact hS.sub (.cons _ (List.Sublist.refl _)) | exact hS.sub (.cons _ (.cons _ (List.Sublist.refl _))) | exact hS.sub (.cons _ (.cons _ (.cons _ (List.Sublist.refl _))))) (fun w hS => (fa26_2 h9)) ?_
              show wpA _ _ _ _ _ _ _ _ _ _
              refine a_step (i := 13) (is := []) (by kernel_rfl) ⟨?_, trivial⟩
              refine ⟨_, rfl, ?_⟩
              obtain ⟨a22, c22, rfl⟩ := row_shape (hS.row v122)
              refine sst hS rfl rfl Tryz.sizeOf23 rfl rfl rfl rfl ?_; clear hS; intro w hS
              refine nil ?_
              refine ⟨fun h => absurd h (by decide), ?_⟩
              show wpA _ _ _ _ _ _ _ _ _ _
              refine a_end (by kernel_rfl) ?_
              show Code.wp _ _ _ _ _
              refine seq ?_
              refine region_mix (fun w => StX [] w0 w []) 11 mixed hS ?_
              clear hS; intro w hS
              obtain ⟨hn1, hn2⟩ := ints_cut hK (i := i) (by omega)
              have htl : ((blkR t now).1.take i).length = i := by rw [List.length_take]; omega
              have hdl : ((blkR t now).1.drop (i + 1)).length = (blkR t now).1.length - (i + 1) := List.length_drop
              refine f_step 1 (by kernel_rfl) rfl (fun c a a' w h => by obtain ⟨_, v, hv, _⟩ := h; cases hv) (hS.sub (List.nil_sublist _)) (fun w hS => (yMove h7)) ?_
              refine f_step 2 (by kernel_rfl) rfl (fun c a a' w h => by obtain ⟨_, v, hv, _⟩ := h; cases hv) (hS.sub (List.nil_sublist _)) (fun w hS => (yMove h10)) ?_
              refine f_step 3 (by kernel_rfl) rfl (fun c a a' w h => by obtain ⟨_, v, hv, _⟩ := h; cases hv) (hS.sub (List.nil_sublist _)) (fun w hS => (yTo (i := i) rfl rfl Tryz.underlying34 Tryz.sizeOf3 (by have := hK.fit; omega))) ?_
              refine f_step 5 (by kernel_rfl) rfl (fun c a a' w h => by obtain ⟨_, v, hv, _⟩ := h; cases hv) (hS.sub (List.nil_sublist _)) (fun w hS => (yMove h7)) ?_
              refine f_step 6 (by kernel_rfl) rfl (fun c a a' w h => by obtain ⟨_, v, hv, _⟩ := h; cases hv) (hS.sub (List.nil_sublist _)) (fun w hS => (yMove h10)) ?_
              refine f_step 7 (by kernel_rfl) rfl (fun c a a' w h => by obtain ⟨_, v, hv, _⟩ := h; cases hv) (hS.sub (List.nil_sublist _)) (fun w hS => (yAdd rfl rfl ⟨by omega, by omega⟩)) ?_
              refine f_step 8 (by kernel_rfl) rfl (fun c a a' w h => by obtain ⟨_, v, hv, _⟩ := h; cases hv) (hS.sub (List.nil_sublist _)) (fun w hS => (yFromA (i := i + 1) rfl (rfl.trans (congrArg (Value.int .i64) (by simp))) Tryz.underlying34 Tryz.sizeOf3 (by omega))) ?_
              show wpA _ _ _ _ _ _ _ _ _ _
              refine a_step (i := 0) (is := []) (by kernel_rfl) ⟨?_, trivial⟩
              refine ⟨_, rfl, ?_⟩
              refine sbslice0 hS Tryz.underlying34 Tryz.sizeOf3 ?_; clear hS; intro b124 w hS
              refine nil ?_
              refine ⟨fun _ => (hS.sub (List.nil_sublist _)), ?_⟩
              show wpA _ _ _ _ _ _ _ _ _ _
              show wpA _ _ _ _ _ _ _ _ _ _
              refine a_step (i := 4) (is := []) (by kernel_rfl) ⟨?_, trivial⟩
              refine ⟨_, rfl, ?_⟩
              refine sappS (bytes := 8) (size := 1) hS rfl rfl Tryz.underlying34 ti3 rfl rfl rfl rfl (by decide) Tryz.sizeOf3 (fun hh => by obtain ⟨bd, od, e1, e2⟩ := hn1 hh; exact ⟨bd, od, e1, e2.ext hS.ext⟩) (by rw [flat_len encI_len, htl]) (ints_one _) (by omega) (by omega) ?_; clear hS; intro v128 w hS; rw [Nat.zero_add i, List.nil_append] at hS
              obtain ⟨a28, c28b, rfl⟩ := row_shape (hS.row v128)
              refine nil ?_
              refine ⟨fun _ => (hS.sub (List.nil_sublist _)), ?_⟩
              show wpA _ _ _ _ _ _ _ _ _ _
              show wpA _ _ _ _ _ _ _ _ _ _
              refine a_step (i := 9) (is := []) (by kernel_rfl) ⟨?_, trivial⟩
              refine ⟨_, rfl, ?_⟩
              refine sappS (bytes := 8) (size := 1) hS rfl rfl Tryz.underlying34 ti3 rfl rfl rfl rfl (by decide) Tryz.sizeOf3 (fun hh => by obtain ⟨bd, od, e1, e2⟩ := hn2 hh; exact ⟨bd, od, e1, e2.ext hS.ext⟩) (by rw [flat_len encI_len, hdl]) (ints_one _) (by omega) (by omega) ?_; clear hS; intro v133 w hS
              rw [← List.flatMap_append] at hS
              obtain ⟨a33, c33, rfl⟩ := row_shape (hS.row v133)
              refine nil ?_
              refine ⟨fun _ => (hS.sub (List.nil_sublist _)), ?_⟩
              show wpA _ _ _ _ _ _ _ _ _ _
              refine f_step 10 (by kernel_rfl) rfl (fun c a a' w h => by obtain ⟨_, v, hv, _⟩ := h; cases hv) (hS.sub (List.nil_sublist _)) (fun w hS => (yAsg rfl)) ?_
              refine a_end (by kernel_rfl) ?_
              show Code.wp _ _ _ _ _
              refine seq ?_
              refine region ?_
              refine sv (yLdBA h2 Tryz.isAgg26 Tryz.sizeOf26 (hS.ext.get hb2) rfl rfl) ?_
              refine sv (yMove h1) ?_
              refine sv (yMove rfl) ?_
              have hrl : ((blkR t now).1.take i ++ (blkR t now).1.drop (i + 1)).length = i + ((blkR t now).1.length - (i + 1)) := by rw [List.length_append, htl, hdl]
              have hrest := hbo.rest i (by omega)
              rw [hrl] at hrest
              refine scall Tryz.call27 (.cons rfl (.cons rfl (.cons rfl .nil))) (c_slotsL (hgZ.ext hS.ext) (hT.ext hS.ext) hck hn (sl_ints (hS.row (.slice a33 (i + ((blkR t now).1.length - (i + 1))) c33)) hrl (fun q hq => by have := hbm q ((cut_sub i).subset hq); constructor <;> omega)) (fun q hq => hbm q ((cut_sub i).subset hq))) ?_
              rintro _ w ⟨rfl, hE⟩; replace hS := hS.step hE; clear hE
              refine sv (yMove rfl) ?_
              refine sv (yLen rfl Tryz.underlying34) ?_
              refine sv (yLss rfl rfl) ?_
              refine nil ?_
              show Code.wp _ _ _ _ _
              refine cond rfl (fun c140 => ?_) (fun c140 => ?_)
              ·
                simp only [Bool.and_eq_true, Bool.or_eq_true, Bool.and_eq_false_iff, Bool.or_eq_false_iff, decide_eq_true_eq, decide_eq_false_iff_not, Bool.not_eq_true, Bool.not_eq_false, Bool.not_not, Bool.not_eq_eq_eq_not, Bool.not_true, Bool.not_false, Bool.false_eq_true, Bool.true_eq_false, ne_eq, Decidable.not_not, not_false_eq_true, not_true_eq_false] at c140
                exfalso; omega
              ·
                simp only [Bool.and_eq_true, Bool.or_eq_true, Bool.and_eq_false_iff, Bool.or_eq_false_iff, decide_eq_true_eq, decide_eq_false_iff_not, Bool.not_eq_true, Bool.not_eq_false, Bool.not_not, Bool.not_eq_eq_eq_not, Bool.not_true, Bool.not_false, Bool.false_eq_true, Bool.true_eq_false, ne_eq, Decidable.not_not, not_false_eq_true, not_true_eq_false] at c140
                refine skip ?_
                show Code.wp _ _ _ _ _
                refine region ?_
                refine sv (yMove h10) ?_
                refine sv (yAdd rfl rfl ⟨by omega, by omega⟩) ?_
                refine sv (yAsg rfl) ?_
                refine nil ?_
                exact ⟨_, _, rfl, ⟨i + 1, (.slice a22 (i + 1) c22), css ++ [[.string (twn t x).name, .int .i64 (twn t x).polder, .int .i64 (twn t x).travel, .int .i64 (twn t x).lead, .slice adt (twn t x).chans.length cdt]], h1, h2, h7, h9, rfl, (by rw [flat_snoc]; exact hS.sub (.cons _ (.cons _ (.cons _ (List.Sublist.refl _))))), (by omega), (by rw [take_snoc hx, List.map_append]; exact hrow.snoc hlt hRt0), rfl⟩, by omega⟩
        ·
          simp only [Bool.and_eq_true, Bool.or_eq_true, Bool.and_eq_false_iff, Bool.or_eq_false_iff, decide_eq_true_eq, decide_eq_false_iff_not, Bool.not_eq_true, Bool.not_eq_false, Bool.not_not, Bool.not_eq_eq_eq_not, Bool.not_true, Bool.not_false, Bool.false_eq_true, Bool.true_eq_false, ne_eq, Decidable.not_not, not_false_eq_true, not_true_eq_false] at c59
          obtain rfl : i = (blkR t now).1.length := by omega
          rw [List.take_length] at hrow
          obtain ⟨hcu, hpu⟩ := blk_sub hck hn hbo
          refine exit ?_
          show Code.wp _ _ _ _ _
          refine seq ?_
          refine region ?_
          refine sv (yLdBA h9 Tryz.isAgg26 Tryz.sizeOf26 (hS.at _) rfl rfl) ?_
          refine sv (yMove h1) ?_
          refine scall Tryz.call18 (.cons rfl (.cons rfl .nil)) (c_Plan (t := subT t (blkR t now).1) (hgZ.ext hS.ext) ⟨_, _, _, rfl, hpol, hsh.ext RChan.stays hS.ext, sl_of_row (hS.row tv) (hrow.ext RTown.stays hS.ext) (List.length_map _), hsf.ext RRow.stays hS.ext⟩) ?_
          rintro _ w ⟨qv, rfl, hM⟩; replace hS := hS.step hM.ext; clear hM
          refine sv (yMove rfl) ?_
          refine sv (yExt rfl rfl) ?_
          refine sv (yExt rfl rfl) ?_
          refine sv (yAsg rfl) ?_
          refine nil ?_
          show Code.wp _ _ _ _ _
          refine seq ?_
          refine region ?_
          refine sv (yMove rfl) ?_
          refine sv (yEql rfl rfl) ?_
          refine sv (yMove rfl) ?_
          refine sgc hS rfl rfl rfl Tryz.call20 (fun g => .nil) (fun g => (c_Awake (hgZ.ext hS.ext))) ?_; clear hS; intro v150 w hS g150
          refine sv (yAnd rfl (fun hB => (g150.1 hB)) rfl) ?_
          refine sv (yAsg rfl) ?_
          refine nil ?_
          show Code.wp _ _ _ _ _
          refine wp_ret ?_
          exact retV (res1 rfl (eqB (by rw [hpu]; simp))) (hE0.trans hS.ext)
end Go.Proofs.YtmoilbakmlekbaaGreatDoor

/- part RdF -/
namespace Go.Proofs.YtmoilbakmlekbaaGreatDoor
open Go Bx
section
variable {H : Type} {enc : TypeId × Value → H} {w : World} {base : Nat} {spare : Nat → Bool} {held : Bool} {fuel : Nat} {cs : List Value} {x : DataW H × List MemPlace}
theorem rdF26 (h : DataW.trod enc Tryz.prog w base spare held fuel 26 cs = some x) (hW : WOk Tryz.prog 26 x.1) : ∃ n c0 c1 c2 c3, cs = [c0, c1, c2, c3] ∧ (∃ y, DataW.trod enc Tryz.prog w base spare held n 3 [c0] = some y ∧ WOk Tryz.prog 3 y.1) ∧ (∃ y, DataW.trod enc Tryz.prog w base spare held n 22 [c1] = some y ∧ WOk Tryz.prog 22 y.1) ∧ (∃ y, DataW.trod enc Tryz.prog w base spare held n 23 [c2] = some y ∧ WOk Tryz.prog 23 y.1) ∧ (∃ y, DataW.trod enc Tryz.prog w base spare held n 24 [c3] = some y ∧ WOk Tryz.prog 24 y.1) := by
  have z3 : Tryz.prog.cellsOf 3 = 1 := by kernel_rfl
  have z22 : Tryz.prog.cellsOf 22 = 1 := by kernel_rfl
  have z23 : Tryz.prog.cellsOf 23 = 1 := by kernel_rfl
  have z24 : Tryz.prog.cellsOf 24 = 1 := by kernel_rfl
  obtain ⟨hl, n, hf⟩ := rdw_fields Tryz.underlying26 h hW
  have hz : Tryz.prog.cellsOf 26 = 4 := by kernel_rfl
  rw [hz] at hl
  obtain ⟨c0, c1, c2, c3, rfl⟩ := four_of hl
  have f0 : ∃ y, DataW.trod enc Tryz.prog w base spare held n 3 ((List.drop 0 [c0, c1, c2, c3]).take (Tryz.prog.cellsOf 3)) = some y ∧ WOk Tryz.prog 3 y.1 := hf 0 _ rfl
  rw [z3] at f0
  have f1 : ∃ y, DataW.trod enc Tryz.prog w base spare held n 22 ((List.drop 1 [c0, c1, c2, c3]).take (Tryz.prog.cellsOf 22)) = some y ∧ WOk Tryz.prog 22 y.1 := hf 1 _ rfl
  rw [z22] at f1
  have f2 : ∃ y, DataW.trod enc Tryz.prog w base spare held n 23 ((List.drop 2 [c0, c1, c2, c3]).take (Tryz.prog.cellsOf 23)) = some y ∧ WOk Tryz.prog 23 y.1 := hf 2 _ rfl
  rw [z23] at f2
  have f3 : ∃ y, DataW.trod enc Tryz.prog w base spare held n 24 ((List.drop 3 [c0, c1, c2, c3]).take (Tryz.prog.cellsOf 24)) = some y ∧ WOk Tryz.prog 24 y.1 := hf 3 _ rfl
  rw [z24] at f3
  exact ⟨n, c0, c1, c2, c3, rfl, f0, f1, f2, f3⟩
theorem rdF36 (h : DataW.trod enc Tryz.prog w base spare held fuel 36 cs = some x) (hW : WOk Tryz.prog 36 x.1) : ∃ n c0 c1 c2 c3 c4, cs = [c0, c1, c2, c3, c4] ∧ (∃ y, DataW.trod enc Tryz.prog w base spare held n 9 [c0] = some y ∧ WOk Tryz.prog 9 y.1) ∧ (∃ y, DataW.trod enc Tryz.prog w base spare held n 3 [c1] = some y ∧ WOk Tryz.prog 3 y.1) ∧ (∃ y, DataW.trod enc Tryz.prog w base spare held n 3 [c2] = some y ∧ WOk Tryz.prog 3 y.1) ∧ (∃ y, DataW.trod enc Tryz.prog w base spare held n 3 [c3] = some y ∧ WOk Tryz.prog 3 y.1) ∧ (∃ y, DataW.trod enc Tryz.prog w base spare held n 34 [c4] = some y ∧ WOk Tryz.prog 34 y.1) := by
  have z3 : Tryz.prog.cellsOf 3 = 1 := by kernel_rfl
  have z9 : Tryz.prog.cellsOf 9 = 1 := by kernel_rfl
  have z34 : Tryz.prog.cellsOf 34 = 1 := by kernel_rfl
  obtain ⟨hl, n, hf⟩ := rdw_fields Tryz.underlying36 h hW
  have hz : Tryz.prog.cellsOf 36 = 5 := by kernel_rfl
  rw [hz] at hl
  obtain ⟨c0, c1, c2, c3, c4, rfl⟩ := five_of hl
  have f0 : ∃ y, DataW.trod enc Tryz.prog w base spare held n 9 ((List.drop 0 [c0, c1, c2, c3, c4]).take (Tryz.prog.cellsOf 9)) = some y ∧ WOk Tryz.prog 9 y.1 := hf 0 _ rfl
  rw [z9] at f0
  have f1 : ∃ y, DataW.trod enc Tryz.prog w base spare held n 3 ((List.drop 1 [c0, c1, c2, c3, c4]).take (Tryz.prog.cellsOf 3)) = some y ∧ WOk Tryz.prog 3 y.1 := hf 1 _ rfl
  rw [z3] at f1
  have f2 : ∃ y, DataW.trod enc Tryz.prog w base spare held n 3 ((List.drop 2 [c0, c1, c2, c3, c4]).take (Tryz.prog.cellsOf 3)) = some y ∧ WOk Tryz.prog 3 y.1 := hf 2 _ rfl
  rw [z3] at f2
  have f3 : ∃ y, DataW.trod enc Tryz.prog w base spare held n 3 ((List.drop 3 [c0, c1, c2, c3, c4]).take (Tryz.prog.cellsOf 3)) = some y ∧ WOk Tryz.prog 3 y.1 := hf 3 _ rfl
  rw [z3] at f3
  have f4 : ∃ y, DataW.trod enc Tryz.prog w base spare held n 34 ((List.drop 4 [c0, c1, c2, c3, c4]).take (Tryz.prog.cellsOf 34)) = some y ∧ WOk Tryz.prog 34 y.1 := hf 4 _ rfl
  rw [z34] at f4
  exact ⟨n, c0, c1, c2, c3, c4, rfl, f0, f1, f2, f3, f4⟩
theorem rdF41 (h : DataW.trod enc Tryz.prog w base spare held fuel 41 cs = some x) (hW : WOk Tryz.prog 41 x.1) : ∃ n c0 c1 c2, cs = [c0, c1, c2] ∧ (∃ y, DataW.trod enc Tryz.prog w base spare held n 9 [c0] = some y ∧ WOk Tryz.prog 9 y.1) ∧ (∃ y, DataW.trod enc Tryz.prog w base spare held n 3 [c1] = some y ∧ WOk Tryz.prog 3 y.1) ∧ (∃ y, DataW.trod enc Tryz.prog w base spare held n 3 [c2] = some y ∧ WOk Tryz.prog 3 y.1) := by
  have z3 : Tryz.prog.cellsOf 3 = 1 := by kernel_rfl
  have z9 : Tryz.prog.cellsOf 9 = 1 := by kernel_rfl
  obtain ⟨hl, n, hf⟩ := rdw_fields Tryz.underlying41 h hW
  have hz : Tryz.prog.cellsOf 41 = 3 := by kernel_rfl
  rw [hz] at hl
  obtain ⟨c0, c1, c2, rfl⟩ := three_of hl
  have f0 : ∃ y, DataW.trod enc Tryz.prog w base spare held n 9 ((List.drop 0 [c0, c1, c2]).take (Tryz.prog.cellsOf 9)) = some y ∧ WOk Tryz.prog 9 y.1 := hf 0 _ rfl
  rw [z9] at f0
  have f1 : ∃ y, DataW.trod enc Tryz.prog w base spare held n 3 ((List.drop 1 [c0, c1, c2]).take (Tryz.prog.cellsOf 3)) = some y ∧ WOk Tryz.prog 3 y.1 := hf 1 _ rfl
  rw [z3] at f1
  have f2 : ∃ y, DataW.trod enc Tryz.prog w base spare held n 3 ((List.drop 2 [c0, c1, c2]).take (Tryz.prog.cellsOf 3)) = some y ∧ WOk Tryz.prog 3 y.1 := hf 2 _ rfl
  rw [z3] at f2
  exact ⟨n, c0, c1, c2, rfl, f0, f1, f2⟩
end
end Go.Proofs.YtmoilbakmlekbaaGreatDoor

/- part Rd1 -/
namespace Go.Proofs.YtmoilbakmlekbaaGreatDoor
open Go Bx
theorem rd_Ints : RdW Tryz.prog 34 (fun w cs (l : List Int) => ∃ v, cs = [v] ∧ Sl w 1 RInt v l ∧ l.length * 8 ≤ 140737488351232) := rdw_slice (Rd.w (rd_int Tryz.underlying3)) (by kernel_rfl) (by decide) Tryz.underlying34 (by kernel_rfl)
theorem rd_Row : RdW Tryz.prog 34 RRow := fun H enc w base spare held fuel cs x h hW => by obtain ⟨a, v, e, i, -⟩ := rd_Ints H enc w base spare held fuel cs x h hW; exact ⟨a, v, e, i⟩
theorem rd_Rows : RdW Tryz.prog 24 (fun w cs (l : List (List Int)) => ∃ v, cs = [v] ∧ Sl w 1 RRow v l ∧ l.length * 24 ≤ 140737488351232) := rdw_slice rd_Row (by kernel_rfl) (by decide) Tryz.underlying24 (by kernel_rfl)
theorem rd_Chan : RdW Tryz.prog 41 RChan := by
  intro H enc w base spare held fuel cs x h hW
  obtain ⟨n, c0, c1, c2, rfl, ⟨y0, f0, k0⟩, ⟨y1, f1, k1⟩, ⟨y2, f2, k2⟩⟩ := rdF41 h hW
  obtain ⟨a0, g0⟩ := (Rd.w (rd_str Tryz.underlying9)) _ _ _ _ _ _ _ _ _ f0 k0
  obtain ⟨a1, g1⟩ := (Rd.w (rd_int Tryz.underlying3)) _ _ _ _ _ _ _ _ _ f1 k1
  obtain ⟨a2, g2⟩ := (Rd.w (rd_int Tryz.underlying3)) _ _ _ _ _ _ _ _ _ f2 k2
  obtain ⟨e0, i0⟩ := g0; obtain ⟨e1, i1⟩ := g1; obtain ⟨e2, i2⟩ := g2; cases e0; cases e1; cases e2; exact ⟨⟨a0, a1, a2⟩, rfl, i0, i1, i2⟩
theorem rd_Chans : RdW Tryz.prog 22 (fun w cs (l : List Chan) => ∃ v, cs = [v] ∧ Sl w 3 RChan v l ∧ l.length * 32 ≤ 140737488351232) := rdw_slice rd_Chan (by kernel_rfl) (by decide) Tryz.underlying22 (by kernel_rfl)
theorem rd_Town : RdW Tryz.prog 36 RTown := by
  intro H enc w base spare held fuel cs x h hW
  obtain ⟨n, c0, c1, c2, c3, c4, rfl, ⟨y0, f0, k0⟩, ⟨y1, f1, k1⟩, ⟨y2, f2, k2⟩, ⟨y3, f3, k3⟩, ⟨y4, f4, k4⟩⟩ := rdF36 h hW
  obtain ⟨a0, g0⟩ := (Rd.w (rd_str Tryz.underlying9)) _ _ _ _ _ _ _ _ _ f0 k0
  obtain ⟨a1, g1⟩ := (Rd.w (rd_int Tryz.underlying3)) _ _ _ _ _ _ _ _ _ f1 k1
  obtain ⟨a2, g2⟩ := (Rd.w (rd_int Tryz.underlying3)) _ _ _ _ _ _ _ _ _ f2 k2
  obtain ⟨a3, g3⟩ := (Rd.w (rd_int Tryz.underlying3)) _ _ _ _ _ _ _ _ _ f3 k3
  obtain ⟨a4, g4⟩ := rd_Ints _ _ _ _ _ _ _ _ _ f4 k4
  obtain ⟨e0, i0⟩ := g0; obtain ⟨e1, i1⟩ := g1; obtain ⟨e2, i2⟩ := g2; obtain ⟨e3, i3⟩ := g3; obtain ⟨v4, e4, i4, r4⟩ := g4; cases e0; cases e1; cases e2; cases e3; cases e4; exact ⟨⟨a0, a1, a2, a3, a4⟩, _, rfl, i0, i1, i2, i3, i4, r4⟩
theorem rd_Towns : RdW Tryz.prog 23 (fun w cs (l : List Town) => ∃ v, cs = [v] ∧ Sl w 5 RTown v l ∧ l.length * 64 ≤ 140737488351232) := rdw_slice rd_Town (by kernel_rfl) (by decide) Tryz.underlying23 (by kernel_rfl)
theorem rd_Task : RdW Tryz.prog 26 RTask := by
  intro H enc w base spare held fuel cs x h hW
  obtain ⟨n, c0, c1, c2, c3, rfl, ⟨y0, f0, k0⟩, ⟨y1, f1, k1⟩, ⟨y2, f2, k2⟩, ⟨y3, f3, k3⟩⟩ := rdF26 h hW
  obtain ⟨a0, g0⟩ := (Rd.w (rd_int Tryz.underlying3)) _ _ _ _ _ _ _ _ _ f0 k0
  obtain ⟨a1, g1⟩ := rd_Chans _ _ _ _ _ _ _ _ _ f1 k1
  obtain ⟨a2, g2⟩ := rd_Towns _ _ _ _ _ _ _ _ _ f2 k2
  obtain ⟨a3, g3⟩ := rd_Rows _ _ _ _ _ _ _ _ _ f3 k3
  obtain ⟨e0, i0⟩ := g0; obtain ⟨v1, e1, i1, r1⟩ := g1; obtain ⟨v2, e2, i2, r2⟩ := g2; obtain ⟨v3, e3, i3, r3⟩ := g3; cases e0; cases e1; cases e2; cases e3; exact ⟨⟨a0, a1, a2, a3⟩, _, _, _, rfl, i0, i1, i2, i3⟩
end Go.Proofs.YtmoilbakmlekbaaGreatDoor

/- part Laid -/
namespace Go.Proofs.YtmoilbakmlekbaaGreatDoor
open Go Bx Go.ChangeShapes Go.WideShapes Go.RowKit
theorem laidEt : Tryz.prog.globalNamed "errors.errorType" = some 0 := by kernel_rfl
theorem laidRt : (Tryz.prog.cutTypes.find? (·.1 == "internal/reflectlite.rtype")).map (·.2) = some 217 := by kernel_rfl
theorem laidOne : ((List.range 309).filter fun t => Tryz.prog.rowNamed t [101, 114, 114, 111, 114]) = [120] := by kernel_rfl
theorem laidSize : Tryz.prog.types.size = 309 := by kernel_rfl
theorem glb_of_laid {W : World} (h : laidMetH Tryz.prog [("errors.errorType", Rows.laid_errors_errorType)] W) : Glb W := by
  have h' : laidMet Tryz.prog [] W ∧ handlesMet Tryz.prog [("errors.errorType", Rows.laid_errors_errorType)] W := h
  obtain ⟨name, u, ty, e1, e2, e3, e4, e5⟩ := h'.2 _ (List.mem_singleton.2 rfl)
  have en : name = [101, 114, 114, 111, 114] := (Option.some.inj e1).symm
  subst en
  obtain rfl := Option.some.inj (laidRt.symm.trans e2)
  have hm : ty ∈ (List.range 309).filter fun t => Tryz.prog.rowNamed t [101, 114, 114, 111, 114] := List.mem_filter.2 ⟨List.mem_range.2 (by rw [← laidSize]; exact e3), e4⟩
  rw [laidOne] at hm
  obtain rfl := List.mem_singleton.1 hm
  have hh : typeHandle Tryz.prog 120 = .pointer (some ⟨1, 120, none⟩) := by kernel_rfl
  rw [hh] at e5
  simpa [Glb] using World.var?_cell laidEt e5 0
noncomputable def laidWorld (os : Os) : World :=
  let w0 := World.holding Tryz.prog os ⟨#[], #[], []⟩
  { w0 with heap := w0.heap.modify 0 fun
      | .cells _ t frozen => .cells #[.iface 217 (.agg #[.pointer (some ⟨1, 120, none⟩)])] t frozen
      | o => o }
theorem laidWorld_met (os : Os) (args : Array Value) : laidMetH Tryz.prog [("errors.errorType", Rows.laid_errors_errorType)] ((laidWorld os).forCall (fun _ _ => 0) ⟨#[], args, []⟩).memory :=
  laidMetH_of_parts (laidMet_nil _ _) (by kernel_rfl)
end Go.Proofs.YtmoilbakmlekbaaGreatDoor

