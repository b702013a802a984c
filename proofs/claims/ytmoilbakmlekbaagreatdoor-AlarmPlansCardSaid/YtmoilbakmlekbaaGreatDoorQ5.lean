/- Merged texts, part 5. -/
import Derived.Test.YtmoilbakmlekbaaGreatDoorQ4
import Derived.Scope
set_option linter.all false
/- part Aw17 -/
namespace Go.Proofs.YtmoilbakmlekbaaGreatDoor
open Go Bx
set_option maxHeartbeats 2000000 in
/-- barrage/barragelaw11.Task -/
theorem c_Task {w0 : World} : CE Tryz.prog 42 #[] w0 (fun u w' => ∃ hv nv fv, u = .agg [.int .i64 exT.polders, hv, nv, fv].toArray ∧ RTask w' [.int .i64 exT.polders, hv, nv, fv] exT ∧ Ext w0 w') := by
  refine enter Tryz.func42 rfl Tryz.ntmps42 rfl ?_
  have hS := St.start w0
  refine seq ?_
  refine region ?_
  refine salloc hS Tryz.zeroValue26 rfl ?_; clear hS; intro b0 w hS
  refine nil ?_
  show Code.wp _ _ _ _ _
  refine seq ?_
  refine region ?_
  refine sv (yBuild Tryz.zeroValue41 rfl pl41 (.cons rfl rfl (.cons rfl rfl .nil)) rfl) ?_
  refine sv (yBuild Tryz.zeroValue41 rfl pl41 (.cons rfl rfl (.cons rfl rfl (.cons rfl rfl .nil))) rfl) ?_
  refine sbslice hS Tryz.underlying22 Tryz.sizeOf41 rfl Tryz.zeroValue41 rfl (.cons rfl rfl (.cons rfl rfl .nil)) rfl ?_; clear hS; intro b3 w hS
  refine sbslice hS Tryz.underlying34 Tryz.sizeOf3 rfl Tryz.zeroValue3 rfl (.cons rfl rfl (.cons rfl rfl .nil)) rfl ?_; clear hS; intro b4 w hS
  refine sv (yBuild Tryz.zeroValue36 rfl pl36 (.cons rfl rfl (.cons rfl rfl (.cons rfl rfl (.cons rfl rfl .nil)))) rfl) ?_
  refine sbslice hS Tryz.underlying34 Tryz.sizeOf3 rfl Tryz.zeroValue3 rfl (.cons rfl rfl .nil) rfl ?_; clear hS; intro b6 w hS
  refine sv (yBuild Tryz.zeroValue36 rfl pl36 (.cons rfl rfl (.cons rfl rfl (.cons rfl rfl (.cons rfl rfl .nil)))) rfl) ?_
  refine sbslice hS Tryz.underlying34 Tryz.sizeOf3 rfl Tryz.zeroValue3 rfl (.cons rfl rfl .nil) rfl ?_; clear hS; intro b8 w hS
  refine sv (yBuild Tryz.zeroValue36 rfl pl36 (.cons rfl rfl (.cons rfl rfl (.cons rfl rfl (.cons rfl rfl .nil)))) rfl) ?_
  refine sbslice hS Tryz.underlying23 Tryz.sizeOf36 rfl Tryz.zeroValue36 rfl (.cons rfl rfl (.cons rfl rfl (.cons rfl rfl .nil))) rfl ?_; clear hS; intro b10 w hS
  refine sbslice hS Tryz.underlying34 Tryz.sizeOf3 rfl Tryz.zeroValue3 rfl (.cons rfl rfl (.cons rfl rfl .nil)) rfl ?_; clear hS; intro b11 w hS
  refine sbslice hS Tryz.underlying34 Tryz.sizeOf3 rfl Tryz.zeroValue3 rfl (.cons rfl rfl (.cons rfl rfl .nil)) rfl ?_; clear hS; intro b12 w hS
  refine sbslice hS Tryz.underlying24 Tryz.sizeOf34 rfl Tryz.zeroValue34 rfl (.cons rfl rfl (.cons rfl rfl .nil)) rfl ?_; clear hS; intro b13 w hS
  refine sv (yBuild Tryz.zeroValue26 rfl pl26 (.cons rfl rfl (.cons rfl rfl (.cons rfl rfl (.cons rfl rfl .nil)))) rfl) ?_
  refine sst hS rfl rfl Tryz.sizeOf26 rfl rfl rfl rfl ?_; clear hS; intro w hS
  refine nil ?_
  show Code.wp _ _ _ _ _
  refine wp_ret ?_
  refine retQ (resV1 rfl (rc rfl Tryz.isAgg26 Tryz.sizeOf26 (hS.at b0) rfl rfl)) ?_
  exact ⟨_, _, _, rfl, ⟨_, _, _, rfl, by decide, (show Sl w 3 RChan (.slice (some ⟨b3, 0, none⟩) 2 2) ([exC1, exC2] : List Chan) from sl_of_blk (hS.at b3) (css := [[.string ⟨#[115, 105, 114, 101, 110]⟩, .int .i64 0, .int .i64 1], [.string ⟨#[114, 97, 100, 105, 111]⟩, .int .i64 2, .int .i64 2]]) (l := ([exC1, exC2] : List Chan)) rfl ⟨rfl, ⟨rfl, by decide, by decide, by decide⟩, rfl, ⟨rfl, by decide, by decide, by decide⟩, trivial⟩ (by decide) rfl), (show Sl w 5 RTown (.slice (some ⟨b10, 0, none⟩) 3 3) ([exT1, exT2, exT3] : List Town) from sl_of_blk (hS.at b10) (css := [[.string ⟨#[100, 105, 107, 101]⟩, .int .i64 0, .int .i64 3, .int .i64 4, .slice (some ⟨b4, 0, none⟩) 2 2], [.string ⟨#[109, 105, 108, 108]⟩, .int .i64 0, .int .i64 5, .int .i64 6, .slice (some ⟨b6, 0, none⟩) 1 1], [.string ⟨#[104, 105, 108, 108]⟩, .int .i64 1, .int .i64 0, .int .i64 10, .slice (some ⟨b8, 0, none⟩) 1 1]]) (l := ([exT1, exT2, exT3] : List Town)) rfl ⟨rfl, ⟨_, rfl, by decide, by decide, by decide, by decide, (ints_sl (l := [0, 1]) (hS.at b4) (by decide) (by decide)), (Nat.le_of_ble_eq_true rfl)⟩, rfl, ⟨_, rfl, by decide, by decide, by decide, by decide, (ints_sl (l := [0]) (hS.at b6) (by decide) (by decide)), (Nat.le_of_ble_eq_true rfl)⟩, rfl, ⟨_, rfl, by decide, by decide, by decide, by decide, (ints_sl (l := [1]) (hS.at b8) (by decide) (by decide)), (Nat.le_of_ble_eq_true rfl)⟩, trivial⟩ (by decide) rfl), (show Sl w 1 RRow (.slice (some ⟨b13, 0, none⟩) 2 2) ([[20, -1], [24, 40]] : List (List Int)) from sl_of_blk (hS.at b13) (css := [[.slice (some ⟨b11, 0, none⟩) 2 2], [.slice (some ⟨b12, 0, none⟩) 2 2]]) (l := ([[20, -1], [24, 40]] : List (List Int))) rfl ⟨rfl, ⟨_, rfl, (ints_sl (l := [20, -1]) (hS.at b11) (by decide) (by decide))⟩, rfl, ⟨_, rfl, (ints_sl (l := [24, 40]) (hS.at b12) (by decide) (by decide))⟩, trivial⟩ (by decide) rfl)⟩, hS.ext⟩
set_option maxHeartbeats 2000000 in
/-- barrage/barragelaw11.Log -/
theorem c_Log {w0 : World} : CE Tryz.prog 43 #[] w0 (fun u w' => Sl w' 5 RMsg u exL ∧ Ext w0 w') := by
  refine enter Tryz.func43 rfl Tryz.ntmps43 rfl ?_
  have hS := St.start w0
  refine seq ?_
  refine region ?_
  refine sv (yAsg rfl) ?_
  refine nil ?_
  show Code.wp _ _ _ _ _
  refine seq ?_
  refine region ?_
  refine sv (yBuild Tryz.zeroValue70 rfl pl70 (.cons rfl rfl (.cons rfl rfl (.cons rfl rfl (.cons rfl rfl (.cons rfl rfl .nil))))) rfl) ?_
  refine sv (yBuild Tryz.zeroValue70 rfl pl70 (.cons rfl rfl (.cons rfl rfl (.cons rfl rfl (.cons rfl rfl (.cons rfl rfl .nil))))) rfl) ?_
  refine sbslice hS Tryz.underlying62 Tryz.sizeOf70 rfl Tryz.zeroValue70 rfl (.cons rfl rfl (.cons rfl rfl .nil)) rfl ?_; clear hS; intro b3 w hS
  refine sv (yAsg rfl) ?_
  refine nil ?_
  show Code.wp _ _ _ _ _
  refine wp_ret ?_
  refine retQ (res1 rfl rfl) ?_
  exact ⟨(show Sl w 5 RMsg (.slice (some ⟨b3, 0, none⟩) 2 2) ([⟨1, 0, 2, 0, 18⟩, ⟨2, 2, 1, 1, 18⟩] : List Msg) from sl_of_blk (hS.at b3) (css := [[.int .i64 1, .int .i64 0, .int .i64 2, .int .i64 0, .int .i64 18], [.int .i64 2, .int .i64 2, .int .i64 1, .int .i64 1, .int .i64 18]]) (l := ([⟨1, 0, 2, 0, 18⟩, ⟨2, 2, 1, 1, 18⟩] : List Msg)) rfl ⟨rfl, ⟨rfl, by decide, by decide, by decide, by decide, by decide⟩, rfl, ⟨rfl, by decide, by decide, by decide, by decide, by decide⟩, trivial⟩ (by decide) rfl), hS.ext⟩
/-- barrage/barrageref11.Messages -/
theorem c_Msgs {la lb : List Msg} {va vb : Value} {w0 : World} (ha : Sl w0 5 RMsg va la) (hb : Sl w0 5 RMsg vb lb) : CV Tryz.prog 35 #[va, vb] w0 (.bool (decide (la = lb))) := by
  obtain ⟨aa, ca, rfl, hca, hma, hela⟩ := ha
  obtain ⟨ab, cb, rfl, hcb, hmb, helb⟩ := hb
  refine enter Tryz.func35 rfl Tryz.ntmps35 rfl ?_
  have hS := St.start w0
  refine seq ?_
  refine region ?_
  refine sv (yAsg rfl) ?_
  refine nil ?_
  show Code.wp _ _ _ _ _
  refine seq ?_
  refine seq ?_
  refine region ?_
  refine sv (yMove rfl) ?_
  refine sv (yLen rfl Tryz.underlying62) ?_
  refine sv (yMove rfl) ?_
  refine sv (yLen rfl Tryz.underlying62) ?_
  refine sv (yNeq rfl rfl) ?_
  refine nil ?_
  show Code.wp _ _ _ _ _
  refine cond rfl (fun c10 => ?_) (fun c10 => ?_)
  ·
    simp only [Bool.and_eq_true, Bool.or_eq_true, Bool.and_eq_false_iff, Bool.or_eq_false_iff, decide_eq_true_eq, decide_eq_false_iff_not, Bool.not_eq_true, Bool.not_eq_false, Bool.not_not, Bool.not_eq_eq_eq_not, Bool.not_true, Bool.not_false, Bool.false_eq_true, Bool.true_eq_false, ne_eq, Decidable.not_not, not_false_eq_true, not_true_eq_false] at c10
    refine seq ?_
    refine region ?_
    refine sv (yAsg rfl) ?_
    refine nil ?_
    show Code.wp _ _ _ _ _
    refine wp_ret (thenR ?_)
    exact retV (res1 rfl (eqB (by rw [decide_eq_false (fun h => by rw [h] at c10; exact c10 rfl)]))) hS.ext
  ·
    simp only [Bool.and_eq_true, Bool.or_eq_true, Bool.and_eq_false_iff, Bool.or_eq_false_iff, decide_eq_true_eq, decide_eq_false_iff_not, Bool.not_eq_true, Bool.not_eq_false, Bool.not_not, Bool.not_eq_eq_eq_not, Bool.not_true, Bool.not_false, Bool.false_eq_true, Bool.true_eq_false, ne_eq, Decidable.not_not, not_false_eq_true, not_true_eq_false] at c10
    refine skip ?_
    show Code.wp _ _ _ _ _
    refine seq ?_
    refine seq ?_
    refine region ?_
    refine sv (yAsg rfl) ?_
    refine nil ?_
    show Code.wp _ _ _ _ _
    refine block ?_
    refine loop (fun f w zz => ∃ (k : Nat), f 0 = .slice aa la.length ca ∧ f 1 = .slice ab lb.length cb ∧ f 5 = .int .i64 (k : Int) ∧ StX [] w0 w [] ∧ (k ≤ la.length) ∧ (∀ i, i < k → la[i]? = lb[i]?) ∧ zz = la.length - k) _ ⟨_, rfl, 0, rfl, rfl, rfl, hS, (Nat.zero_le _), (fun i hi => absurd hi (Nat.not_lt_zero i)), rfl⟩ ?_
    clear hS
    rintro f w _ ⟨k, h0, h1, h5, hS, hk, hI, rfl⟩
    refine seq ?_
    refine seq ?_
    refine region ?_
    refine sv (yMove h5) ?_
    refine sv (yMove h0) ?_
    refine sv (yLen rfl Tryz.underlying62) ?_
    refine sv (yLss rfl rfl) ?_
    refine nil ?_
    show Code.wp _ _ _ _ _
    refine cond rfl (fun c14 => ?_) (fun c14 => ?_)
    ·
      simp only [Bool.and_eq_true, Bool.or_eq_true, Bool.and_eq_false_iff, Bool.or_eq_false_iff, decide_eq_true_eq, decide_eq_false_iff_not, Bool.not_eq_true, Bool.not_eq_false, Bool.not_not, Bool.not_eq_eq_eq_not, Bool.not_true, Bool.not_false, Bool.false_eq_true, Bool.true_eq_false, ne_eq, Decidable.not_not, not_false_eq_true, not_true_eq_false] at c14
      obtain ⟨x, hx, hd⟩ := drop_of (l := la) (k := k) (by omega)
      obtain ⟨b, o, cs, ha, hlen, hcs, hR⟩ := hela (k) (by omega)
      obtain rfl : x = la[k] := (List.getElem?_eq_some_iff.1 hx).2.symm
      generalize la[k] = x at hx hd hR
      obtain ⟨rfl, _⟩ := hR
      obtain ⟨y, hxq, hdq⟩ := drop_of (l := lb) (k := k) (by omega)
      obtain ⟨bq, oq, csq, haq, hlenq, hcsq, hRq⟩ := helb (k) (by omega)
      obtain rfl : y = lb[k] := (List.getElem?_eq_some_iff.1 hxq).2.symm
      generalize lb[k] = y at hxq hdq hRq
      obtain ⟨rfl, _⟩ := hRq
      refine skip ?_
      show Code.wp _ _ _ _ _
      refine seq ?_
      refine block ?_
      refine seq ?_
      refine region_draw mixed (by kernel_rfl) hS ?_
      refine qv (fun w hS => (yMove h0)) ?_
      refine qv (fun w hS => (yMove h5)) ?_
      refine qv (fun w hS => (yIxa rfl ha rfl Tryz.runUnderlying62 Tryz.sizeOf70 (by omega) (by omega))) ?_
      refine qv (fun w hS => (yLdA rfl Tryz.isAgg70 Tryz.sizeOf70 (hcs.ext hS.ext) rfl)) ?_
      refine qv (fun w hS => (yMove h1)) ?_
      refine qv (fun w hS => (yMove h5)) ?_
      refine qv (fun w hS => (yIxa rfl haq rfl Tryz.runUnderlying62 Tryz.sizeOf70 (by omega) (by omega))) ?_
      refine qv (fun w hS => (yLdA rfl Tryz.isAgg70 Tryz.sizeOf70 (hcsq.ext hS.ext) rfl)) ?_
      refine qv (fun w hS => (neS70 rfl rfl)) ?_
      clear hS; refine qnil (fun w hS => ?_)
      show Code.wp _ _ _ _ _
      refine cond rfl (fun c25 => ?_) (fun c25 => ?_)
      ·
        have hne : x ≠ y := fun h => by subst h; simp [] at c25
        refine seq ?_
        refine region ?_
        refine sv (yAsg rfl) ?_
        refine nil ?_
        show Code.wp _ _ _ _ _
        refine wp_ret (blockR (thenR (thenR (blockR (thenR ?_)))))
        exact retV (res1 rfl (eqB (by rw [decide_eq_false (ne_of_get hx hxq hne)]))) hS.ext
      ·
        have hxy : x = y := by cases x; cases y; simpa [and_assoc] using c25
        refine skip ?_
        show Code.wp _ _ _ _ _
        refine region ?_
        refine sv (yMove h5) ?_
        refine sv (yAdd rfl rfl ⟨by omega, by omega⟩) ?_
        refine sv (yAsg rfl) ?_
        refine nil ?_
        exact ⟨_, _, rfl, ⟨k + 1, h0, h1, rfl, hS, (by omega), (snoc hI (by rw [hx, hxq, hxy])), rfl⟩, by omega⟩
    ·
      simp only [Bool.and_eq_true, Bool.or_eq_true, Bool.and_eq_false_iff, Bool.or_eq_false_iff, decide_eq_true_eq, decide_eq_false_iff_not, Bool.not_eq_true, Bool.not_eq_false, Bool.not_not, Bool.not_eq_eq_eq_not, Bool.not_true, Bool.not_false, Bool.false_eq_true, Bool.true_eq_false, ne_eq, Decidable.not_not, not_false_eq_true, not_true_eq_false] at c14
      refine exit ?_
      show Code.wp _ _ _ _ _
      refine seq ?_
      refine region ?_
      refine sv (yAsg rfl) ?_
      refine nil ?_
      show Code.wp _ _ _ _ _
      refine wp_ret ?_
      exact retV (res1 rfl (eqB (by rw [decide_eq_true (eq_of_get (by omega) (fun i hi => hI i (by omega)))]))) hS.ext
/-- barrage/barrageref11.Slots -/
theorem c_Slots {la lb : List Slot} {va vb : Value} {w0 : World} (ha : Sl w0 3 RSlot va la) (hb : Sl w0 3 RSlot vb lb) : CV Tryz.prog 38 #[va, vb] w0 (.bool (decide (la = lb))) := by
  obtain ⟨aa, ca, rfl, hca, hma, hela⟩ := ha
  obtain ⟨ab, cb, rfl, hcb, hmb, helb⟩ := hb
  refine enter Tryz.func38 rfl Tryz.ntmps38 rfl ?_
  have hS := St.start w0
  refine seq ?_
  refine region ?_
  refine sv (yAsg rfl) ?_
  refine nil ?_
  show Code.wp _ _ _ _ _
  refine seq ?_
  refine seq ?_
  refine region ?_
  refine sv (yMove rfl) ?_
  refine sv (yLen rfl Tryz.underlying27) ?_
  refine sv (yMove rfl) ?_
  refine sv (yLen rfl Tryz.underlying27) ?_
  refine sv (yNeq rfl rfl) ?_
  refine nil ?_
  show Code.wp _ _ _ _ _
  refine cond rfl (fun c10 => ?_) (fun c10 => ?_)
  ·
    simp only [Bool.and_eq_true, Bool.or_eq_true, Bool.and_eq_false_iff, Bool.or_eq_false_iff, decide_eq_true_eq, decide_eq_false_iff_not, Bool.not_eq_true, Bool.not_eq_false, Bool.not_not, Bool.not_eq_eq_eq_not, Bool.not_true, Bool.not_false, Bool.false_eq_true, Bool.true_eq_false, ne_eq, Decidable.not_not, not_false_eq_true, not_true_eq_false] at c10
    refine seq ?_
    refine region ?_
    refine sv (yAsg rfl) ?_
    refine nil ?_
    show Code.wp _ _ _ _ _
    refine wp_ret (thenR ?_)
    exact retV (res1 rfl (eqB (by rw [decide_eq_false (fun h => by rw [h] at c10; exact c10 rfl)]))) hS.ext
  ·
    simp only [Bool.and_eq_true, Bool.or_eq_true, Bool.and_eq_false_iff, Bool.or_eq_false_iff, decide_eq_true_eq, decide_eq_false_iff_not, Bool.not_eq_true, Bool.not_eq_false, Bool.not_not, Bool.not_eq_eq_eq_not, Bool.not_true, Bool.not_false, Bool.false_eq_true, Bool.true_eq_false, ne_eq, Decidable.not_not, not_false_eq_true, not_true_eq_false] at c10
    refine skip ?_
    show Code.wp _ _ _ _ _
    refine seq ?_
    refine seq ?_
    refine region ?_
    refine sv (yAsg rfl) ?_
    refine nil ?_
    show Code.wp _ _ _ _ _
    refine block ?_
    refine loop (fun f w zz => ∃ (k : Nat), f 0 = .slice aa la.length ca ∧ f 1 = .slice ab lb.length cb ∧ f 5 = .int .i64 (k : Int) ∧ StX [] w0 w [] ∧ (k ≤ la.length) ∧ (∀ i, i < k → la[i]? = lb[i]?) ∧ zz = la.length - k) _ ⟨_, rfl, 0, rfl, rfl, rfl, hS, (Nat.zero_le _), (fun i hi => absurd hi (Nat.not_lt_zero i)), rfl⟩ ?_
    clear hS
    rintro f w _ ⟨k, h0, h1, h5, hS, hk, hI, rfl⟩
    refine seq ?_
    refine seq ?_
    refine region ?_
    refine sv (yMove h5) ?_
    refine sv (yMove h0) ?_
    refine sv (yLen rfl Tryz.underlying27) ?_
    refine sv (yLss rfl rfl) ?_
    refine nil ?_
    show Code.wp _ _ _ _ _
    refine cond rfl (fun c14 => ?_) (fun c14 => ?_)
    ·
      simp only [Bool.and_eq_true, Bool.or_eq_true, Bool.and_eq_false_iff, Bool.or_eq_false_iff, decide_eq_true_eq, decide_eq_false_iff_not, Bool.not_eq_true, Bool.not_eq_false, Bool.not_not, Bool.not_eq_eq_eq_not, Bool.not_true, Bool.not_false, Bool.false_eq_true, Bool.true_eq_false, ne_eq, Decidable.not_not, not_false_eq_true, not_true_eq_false] at c14
      obtain ⟨x, hx, hd⟩ := drop_of (l := la) (k := k) (by omega)
      obtain ⟨b, o, cs, ha, hlen, hcs, hR⟩ := hela (k) (by omega)
      obtain rfl : x = la[k] := (List.getElem?_eq_some_iff.1 hx).2.symm
      generalize la[k] = x at hx hd hR
      obtain ⟨rfl, _⟩ := hR
      obtain ⟨y, hxq, hdq⟩ := drop_of (l := lb) (k := k) (by omega)
      obtain ⟨bq, oq, csq, haq, hlenq, hcsq, hRq⟩ := helb (k) (by omega)
      obtain rfl : y = lb[k] := (List.getElem?_eq_some_iff.1 hxq).2.symm
      generalize lb[k] = y at hxq hdq hRq
      obtain ⟨rfl, _⟩ := hRq
      refine skip ?_
      show Code.wp _ _ _ _ _
      refine seq ?_
      refine block ?_
      refine seq ?_
      refine region_draw mixed (by kernel_rfl) hS ?_
      refine qv (fun w hS => (yMove h0)) ?_
      refine qv (fun w hS => (yMove h5)) ?_
      refine qv (fun w hS => (yIxa rfl ha rfl Tryz.runUnderlying27 Tryz.sizeOf38 (by omega) (by omega))) ?_
      refine qv (fun w hS => (yLdA rfl Tryz.isAgg38 Tryz.sizeOf38 (hcs.ext hS.ext) rfl)) ?_
      refine qv (fun w hS => (yMove h1)) ?_
      refine qv (fun w hS => (yMove h5)) ?_
      refine qv (fun w hS => (yIxa rfl haq rfl Tryz.runUnderlying27 Tryz.sizeOf38 (by omega) (by omega))) ?_
      refine qv (fun w hS => (yLdA rfl Tryz.isAgg38 Tryz.sizeOf38 (hcsq.ext hS.ext) rfl)) ?_
      refine qv (fun w hS => (neS38 rfl rfl)) ?_
      clear hS; refine qnil (fun w hS => ?_)
      show Code.wp _ _ _ _ _
      refine cond rfl (fun c25 => ?_) (fun c25 => ?_)
      ·
        have hne : x ≠ y := fun h => by subst h; simp [] at c25
        refine seq ?_
        refine region ?_
        refine sv (yAsg rfl) ?_
        refine nil ?_
        show Code.wp _ _ _ _ _
        refine wp_ret (blockR (thenR (thenR (blockR (thenR ?_)))))
        exact retV (res1 rfl (eqB (by rw [decide_eq_false (ne_of_get hx hxq hne)]))) hS.ext
      ·
        have hxy : x = y := by cases x; cases y; simpa [and_assoc] using c25
        refine skip ?_
        show Code.wp _ _ _ _ _
        refine region ?_
        refine sv (yMove h5) ?_
        refine sv (yAdd rfl rfl ⟨by omega, by omega⟩) ?_
        refine sv (yAsg rfl) ?_
        refine nil ?_
        exact ⟨_, _, rfl, ⟨k + 1, h0, h1, rfl, hS, (by omega), (snoc hI (by rw [hx, hxq, hxy])), rfl⟩, by omega⟩
    ·
      simp only [Bool.and_eq_true, Bool.or_eq_true, Bool.and_eq_false_iff, Bool.or_eq_false_iff, decide_eq_true_eq, decide_eq_false_iff_not, Bool.not_eq_true, Bool.not_eq_false, Bool.not_not, Bool.not_eq_eq_eq_not, Bool.not_true, Bool.not_false, Bool.false_eq_true, Bool.true_eq_false, ne_eq, Decidable.not_not, not_false_eq_true, not_true_eq_false] at c14
      refine exit ?_
      show Code.wp _ _ _ _ _
      refine seq ?_
      refine region ?_
      refine sv (yAsg rfl) ?_
      refine nil ?_
      show Code.wp _ _ _ _ _
      refine wp_ret ?_
      exact retV (res1 rfl (eqB (by rw [decide_eq_true (eq_of_get (by omega) (fun i hi => hI i (by omega)))]))) hS.ext
end Go.Proofs.YtmoilbakmlekbaaGreatDoor

/- part Aw18 -/
namespace Go.Proofs.YtmoilbakmlekbaaGreatDoor
open Go Bx
set_option maxHeartbeats 4000000 in
/-- barrage/barragelaw11.Awake -/
theorem c_Awake {w0 : World} (hg : Glb w0) : CV Tryz.prog 20 #[] w0 (.bool true) := by
  refine enter Tryz.func20 rfl Tryz.ntmps20 rfl ?_
  have hS := St.start w0
  refine seq ?_
  refine region ?_
  refine sv (yAsg rfl) ?_
  refine nil ?_
  show Code.wp _ _ _ _ _
  refine seq ?_
  refine region ?_
  refine scall Tryz.call42 .nil c_Task ?_
  rintro _ w ⟨hv1, nv1, fv1, rfl, hT1, hE⟩; replace hS := hS.step hE; clear hE
  refine scall Tryz.call18 (.cons rfl (.cons rfl .nil)) (c_Plan (hg.ext hS.ext) hT1) ?_
  rw [ex_plan]
  rintro _ w ⟨lv, rfl, hM⟩; replace hS := hS.call1 hM; clear hM
  replace hS : StX [] w0 w [rowI lv 38 3 3 ([exS1, exS2, exS3].flatMap slotC)] := hS
  obtain ⟨al, cl, rfl⟩ := row_shape (hS.row lv)
  obtain ⟨gl, rfl, -⟩ := row_get (hS.row (.slice al 3 cl)) (by decide)
  refine sv (yMove rfl) ?_
  refine sv (yExt rfl rfl) ?_
  refine sv (yExt rfl rfl) ?_
  refine sv (yAsg rfl) ?_
  refine sv (yAsg rfl) ?_
  refine nil ?_
  show Code.wp _ _ _ _ _
  refine seq ?_
  refine region ?_
  refine scall Tryz.call42 .nil c_Task ?_
  rintro _ w ⟨hv2, nv2, fv2, rfl, hT2, hE⟩; replace hS := hS.step hE; clear hE
  refine scall Tryz.call33 (.cons rfl (.cons rfl (.cons rfl .nil))) (c_Next (hg.ext hS.ext) hT2 (log := []) Sl.nil) ?_
  rw [ex_next]
  rintro _ w ⟨mv, rfl, hM⟩; replace hS := hS.call1 hM; clear hM
  replace hS : StX [] w0 w [rowI mv 70 5 exL.length (exL.flatMap msgC), rowI (.slice (some ⟨gl, 0, none⟩) 3 cl) 38 3 3 ([exS1, exS2, exS3].flatMap slotC)] := hS
  refine sv (yMove rfl) ?_
  refine sv (yExt rfl rfl) ?_
  refine sv (yExt rfl rfl) ?_
  refine sv (yAsg rfl) ?_
  refine sv (yAsg rfl) ?_
  refine nil ?_
  show Code.wp _ _ _ _ _
  refine seq ?_
  refine region ?_
  refine scall Tryz.call42 .nil c_Task ?_
  rintro _ w ⟨hv3, nv3, fv3, rfl, hT3, hE⟩; replace hS := hS.step hE; clear hE
  refine scall Tryz.call25 (.cons rfl (.cons rfl (.cons rfl .nil))) (c_Stage (hg.ext hS.ext) hT3 (i := 3) (now := 0)) ?_
  rw [ex_stage]
  rintro _ w ⟨rfl, hE⟩; replace hS := hS.step hE; clear hE
  refine sv (yMove rfl) ?_
  refine sv (yExt rfl rfl) ?_
  refine sv (yExt rfl rfl) ?_
  refine sv (yAsg rfl) ?_
  refine sv (yAsg rfl) ?_
  refine nil ?_
  show Code.wp _ _ _ _ _
  refine seq ?_
  refine region ?_
  refine sv (yMove rfl) ?_
  refine sv (yEql rfl rfl) ?_
  refine sv (yMove rfl) ?_
  refine ungo rfl rfl rfl ?_
  refine sv (yMove rfl) ?_
  refine ungo rfl rfl rfl ?_
  refine sv (yEql rfl rfl) ?_
  refine sv (yAnd rfl (fun hB => rfl) rfl) ?_
  refine sv (yMove rfl) ?_
  refine ungo rfl rfl rfl ?_
  refine sv (yMove rfl) ?_
  refine ungo rfl rfl rfl ?_
  refine sv (yEql rfl rfl) ?_
  refine sv (yAnd rfl (fun hB => rfl) rfl) ?_
  refine sv (yMove rfl) ?_
  refine ungo rfl rfl rfl ?_
  refine sv (yMove rfl) ?_
  refine ungo rfl rfl rfl ?_
  refine sv (yLen rfl Tryz.underlying27) ?_
  refine ungo rfl rfl rfl ?_
  refine sv (yEql rfl rfl) ?_
  refine sv (yAnd rfl (fun hB => rfl) rfl) ?_
  refine sv (yMove rfl) ?_
  refine ungo rfl rfl rfl ?_
  refine sv (yMove rfl) ?_
  refine ungo rfl rfl rfl ?_
  refine sv (yIx0 (m := 1) rfl rfl Tryz.runUnderlying27 Tryz.sizeOf38 (by decide)) ?_
  refine ungo rfl rfl rfl ?_
  refine sv (yLdA rfl Tryz.isAgg38 Tryz.sizeOf38 (flat_cells0 slotC_len (row_at (hS.row (.slice (some ⟨gl, 0, none⟩) 3 cl)) rfl (by decide)) (x := exS2) rfl) rfl) ?_
  refine ungo rfl rfl rfl ?_
  refine sv (yBuild Tryz.zeroValue38 rfl pl38 (.cons rfl rfl (.cons rfl rfl .nil)) rfl) ?_
  refine ungo rfl rfl rfl ?_
  refine sv (eqS38 rfl rfl) ?_
  refine sv (yAnd rfl (fun hB => rfl) rfl) ?_
  refine sv (yMove rfl) ?_
  refine ungo rfl rfl rfl ?_
  refine sv (yMove rfl) ?_
  refine ungo rfl rfl rfl ?_
  refine scall Tryz.call43 .nil c_Log ?_
  rintro v46 w ⟨hL, hE⟩; replace hS := hS.step hE; clear hE
  refine ungo rfl rfl rfl ?_
  refine scall Tryz.call35 (.cons rfl (.cons rfl .nil)) (c_Msgs (sl_msgs (hS.row mv) rfl (by decide)) hL) ?_
  rintro _ w ⟨rfl, hE⟩; replace hS := hS.step hE; clear hE
  refine sv (yAnd rfl (fun hB => rfl) rfl) ?_
  refine sv (yAsg rfl) ?_
  refine nil ?_
  show Code.wp _ _ _ _ _
  refine wp_ret ?_
  exact retV (res1 rfl rfl) hS.ext
end Go.Proofs.YtmoilbakmlekbaaGreatDoor

/- part A18 -/
namespace Bx
open Go Go.RowKit
/-- The messages, the last one first, with their places. -/
def bk (log : List Msg) : Nat → List (Int × Msg)
  | 0 => []
  | k + 1 => ((k : Int), log.getD k ⟨0, 0, 0, 0, 0⟩) :: bk log k
end Bx

/- part A20 -/
namespace Bx
open Go Go.RowKit
theorem chL_len (t : Task) : (chL t).length = t.chans.length := by simp [chL]
theorem chL_get {t : Task} {c : Nat} (h : c < t.chans.length) : (chL t)[c]? = some (c : Int) := by simp [chL, h]
theorem cnt_snoc (P : Pl) (c : Int) (A : List Int) (i : Int) : P.cnt c (A ++ [i]) = if c ∈ P.chans i then max (P.cnt c A) (P.latest i c - P.now + 1) else P.cnt c A := by
  unfold Pl.cnt; rw [List.foldl_append]; rfl
theorem cnt_bd {P : Pl} (h : ∀ i c, P.latest i c - P.now + 1 ≤ 200001) (c : Int) (A : List Int) : 0 ≤ P.cnt c A ∧ P.cnt c A ≤ 200001 := by
  refine ⟨cnt_nonneg P c A, ?_⟩
  by_cases h0 : 0 < P.cnt c A
  · obtain ⟨i, -, -, e⟩ := cnt_hit P h0
    have := h i c
    omega
  · omega
theorem plT_late (t : Task) {now : Int} (hn : 0 ≤ now) : ∀ i c, (plT t now).latest i c - (plT t now).now + 1 ≤ 200001 := fun i c => by
  show latestF t i c - now + 1 ≤ 200001
  unfold latestF
  omega
def slK (t : Task) (now : Int) (A : List Int) (k : Nat) : Int := (((chL t).take k).map fun c => (plT t now).cnt c A * (chn t c).room).sum
theorem slK_succ {t : Task} (now : Int) (A : List Int) {k : Nat} (h : k < t.chans.length) : slK t now A (k + 1) = slK t now A k + (plT t now).cnt (k : Int) A * (chn t (k : Int)).room := by
  unfold slK
  rw [take_snoc (chL_get h), List.map_append, List.sum_append]
  simp
theorem slK_end (t : Task) (now : Int) (A : List Int) : slK t now A t.chans.length = (plT t now).slots (chL t) A := by
  unfold slK Pl.slots
  rw [← chL_len, List.take_length]; rfl
theorem prod_bd {a b : Int} (ha : 0 ≤ a ∧ a ≤ 200001) (hb : 0 ≤ b ∧ b ≤ 20) : 0 ≤ a * b ∧ a * b ≤ 4000020 := by
  refine ⟨Int.mul_nonneg ha.1 hb.1, ?_⟩
  have := Int.mul_le_mul ha.2 hb.2 hb.1 (by decide)
  omega
theorem slK_bd {t : Task} (ht : TaskOk t) {now : Int} (hn : 0 ≤ now) (A : List Int) : ∀ k, k ≤ t.chans.length → 0 ≤ slK t now A k ∧ slK t now A k ≤ k * 4000020
  | 0, _ => ⟨Int.le_refl _, Int.le_refl _⟩
  | k + 1, h => by
    have h1 := slK_bd ht hn A k (by omega)
    have h2 := prod_bd (cnt_bd (plT_late t hn) (k : Int) A) (chan_ok ht (c := (k : Int)) ⟨by omega, by omega⟩).2
    rw [slK_succ now A (by omega)]
    push_cast
    omega
end Bx

/- part A21 -/
namespace Bx
open Go Go.RowKit
section
variable {P : Program} {ρ : Operand → Value} {w : World} {ty : TypeId}
theorem yShrI {x y : Operand} {a k : Int} {t t' : TypeId} (hx : ρ x = .int .i64 a) (hy : ρ y = .int .i64 k) (h0 : 0 ≤ k) (h8 : k < 64) : Y P ρ (.binOp .shr t x y t') ty w (.int .i64 (a / 2 ^ k.toNat)) w := by
  have h1 : ¬ k < 0 := by omega
  have h2 : min k.toNat 64 = k.toNat := by omega
  simp [Y, xop, execOp, hx, hy, eqGuard, binOp, Op.shift, IntKind.bits, Int.fdiv_eq_ediv, h1, h2]
end
theorem chL_nod (t : Task) : (chL t).Nodup := by
  unfold chL
  exact List.pairwise_map.2 ((List.nodup_range (n := t.chans.length)).imp fun h e => h (Int.ofNat.inj e))
theorem wetL_nod (t : Task) : (wetL t).Nodup := (wetL_asc t).imp fun h => by omega
theorem chL_mem {t : Task} (ht : TaskOk t) : ∀ i, ∀ c ∈ (twn t i).chans, c ∈ chL t := fun i c hc => by
  have h := chan_mem ht hc
  exact List.mem_map.2 ⟨c.toNat, List.mem_range.2 (by omega), by show ((c.toNat : Nat) : Int) = c; omega⟩
end Bx

/- part A22 -/
namespace Bx
open Go Go.RowKit
/-- What a prefix of the histories says of a town. -/
def arrP (t : Task) (x : Town) (k : Nat) : Span × Int := (t.floods.take k).foldl (arrStep x) (⟨0, 0⟩, 0)
theorem arrP_succ {t : Task} {x : Town} {k : Nat} {l : List Int} (h : t.floods[k]? = some l) : arrP t x (k + 1) = arrStep x (arrP t x k) l := by
  unfold arrP; rw [take_snoc h, List.foldl_append]; rfl
theorem arrP_end (t : Task) (x : Town) : arrP t x t.floods.length = arrF t x := by unfold arrP arrF; rw [List.take_length]
def fld (x : Town) (l : List Int) : Int := l.getD x.polder.toNat 0
theorem okL_all {P : Pl} : ∀ (l : List Slot), OkL P [] l → (∀ s ∈ l, s.channel ∈ P.chans s.town ∧ P.now ≤ s.sent ∧ s.sent ≤ P.latest s.town s.channel) ∧ ∀ s ∈ l, (usedN l s.pl : Int) ≤ P.room s.channel := by
  intro l
  induction l using snocR with
  | h0 => exact fun _ => ⟨fun _ h => (nomatch h), fun _ h => (nomatch h)⟩
  | h1 l s ih =>
    intro h
    obtain ⟨h1, h2⟩ := (OkL.app l [] [s]).1 h
    rw [List.nil_append] at h2
    obtain ⟨⟨k1, k2, k3, k4⟩, -⟩ := h2
    obtain ⟨i1, i2⟩ := ih h1
    refine ⟨fun y hy => ?_, fun y hy => ?_⟩
    · rcases List.mem_append.1 hy with hy | hy
      · exact i1 y hy
      · rw [List.mem_singleton.1 hy]; exact ⟨k1, k2, k3⟩
    · rw [usedN_snoc]
      by_cases e : s.pl = y.pl
      · rw [if_pos e, ← e]
        have hc : s.channel = y.channel := congrArg Prod.fst e
        rw [← hc]; push_cast; omega
      · rw [if_neg e]
        rcases List.mem_append.1 hy with hy | hy
        · have := i2 y hy; push_cast; omega
        · rw [List.mem_singleton.1 hy] at e; exact absurd rfl e
structure InTime (t : Task) (now : Int) (L : List Slot) : Prop where
  towns : L.map (·.town) = wetL t
  fits : ∀ s ∈ L, s.channel ∈ (twn t s.town).chans ∧ now ≤ s.sent ∧ s.sent ≤ latestF t s.town s.channel
  room : ∀ s ∈ L, (usedN L s.pl : Int) ≤ (chn t s.channel).room
theorem plan_intime {t : Task} {now : Int} (h : (planR t now).2 = 0) : TaskOk t ∧ InTime t now (planR t now).1 := by
  unfold planR at h ⊢
  split at h
  next h1 => exact absurd h h1
  next h1 =>
    have hck : (checkA t).2.2 = 0 := by
      by_cases e : (checkA t).2.2 = 0
      · exact e
      · exact absurd (by unfold atE; rw [if_pos e]; exact e) h1
    have hok := task_ok hck
    rw [if_neg h1]
    cases hp : planA t now with
    | none => rw [hp] at h; cases h
    | some L =>
      have hr : (plT t now).ref (wetL t) [] = some L := by
        rw [← hp]; unfold planA
        exact (plan_ref (chL_nod t) (wetL_nod t) (chL_mem hok) (fuel_UU hok now)).symm
      obtain ⟨o1, T, o2, o3⟩ := ref_ok (wetL t) [] L trivial hr
      rw [List.nil_append] at o2
      subst o2
      obtain ⟨q1, q2⟩ := okL_all L o1
      exact ⟨hok, o3, q1, q2⟩
end Bx

/- part A23 -/
namespace Bx
open Go Go.RowKit
theorem slot_mem {t : Task} {now : Int} {L : List Slot} (h : InTime t now L) {s : Slot} (hs : s ∈ L) : 0 ≤ s.town ∧ s.town < t.towns.length := by
  have : s.town ∈ wetL t := by rw [← h.towns]; exact List.mem_map_of_mem hs
  exact idxL_mem (List.mem_filter.1 this).1
theorem plan_now {t : Task} {now : Int} (h : (planR t now).2 = 0) : 0 ≤ now ∧ now ≤ 200000 := by
  unfold planR at h
  split at h
  next h1 => exact absurd h h1
  next h1 => exact (atE_ok (Decidable.not_not.1 h1)).2
end Bx

/- part A24 -/
namespace Bx
open Go Go.RowKit
theorem inB_not {a lo hi : Int} : (!inB a lo hi) = outB a lo hi := by
  rw [Bool.eq_iff_iff]
  simp only [Bool.not_eq_true', inB, outB, Bool.and_eq_false_iff, Bool.or_eq_true, decide_eq_true_eq, decide_eq_false_iff_not]
  omega
def errR {α : Type} (nm : α → ByteArray) (rest : α → Int) (l : List α) (i : Nat) (x : α) : Int := if (!isName (nm x)) = true then 6 else if memB (nm x) ((l.take i).map nm) = true then 5 else rest x
theorem errR_form {α : Type} {nm : α → ByteArray} {rest : α → Int} {l : List α} {i : Nat} {x : α} (h : (!isName (nm x)) = true) : errR nm rest l i x = 6 := if_pos h
theorem errR_twice {α : Type} {nm : α → ByteArray} {rest : α → Int} {l : List α} {i k : Nat} {x u : α} (h : (!isName (nm x)) = false) (hu : l[k]? = some u) (hk : k < i) (he : nm u = nm x) : errR nm rest l i x = 5 := by
  unfold errR
  rw [if_neg (by rw [h]; decide), if_pos]
  rw [memB_iff, ← he]
  exact List.mem_map.2 ⟨u, List.mem_of_getElem? (i := k) (by rw [List.getElem?_take, if_pos hk]; exact hu), rfl⟩
theorem errR_rest {α : Type} {nm : α → ByteArray} {rest : α → Int} {l : List α} {i : Nat} {x : α} (h : (!isName (nm x)) = false) (hn : ∀ k, k < i → ∀ u, l[k]? = some u → nm u ≠ nm x) : errR nm rest l i x = rest x := by
  unfold errR
  rw [if_neg (by rw [h]; decide), if_neg]
  rw [memB_iff]
  intro hm
  obtain ⟨u, hu, he⟩ := List.mem_map.1 hm
  obtain ⟨k, hk, rfl⟩ := List.getElem_of_mem hu
  rw [List.length_take] at hk
  rw [List.getElem_take] at he
  exact hn k (by omega) _ (List.getElem?_eq_getElem (by omega)) he
theorem namedR_step {α : Type} {nm : α → ByteArray} {rest : α → Int} {l : List α} {k : Nat} {x : α} (hx : l[k]? = some x) (hd : l.drop k = x :: l.drop (k + 1)) (h0 : errR nm rest l k x = 0) :
    namedR nm rest (l.drop k) ((l.take k).map nm) k = namedR nm rest (l.drop (k + 1)) ((l.take (k + 1)).map nm) ((k + 1 : Nat) : Int) := by
  rw [hd, namedR, namedR_take hx]
  unfold errR at h0
  split at h0
  · cases h0
  split at h0
  · cases h0
  rename_i h1 h2
  rw [if_neg h1, if_neg h2, if_neg (not_not_intro h0)]
  rfl
theorem namedR_hit {α : Type} {nm : α → ByteArray} {rest : α → Int} {l : List α} {k : Nat} {x : α} (hd : l.drop k = x :: l.drop (k + 1)) (h0 : errR nm rest l k x ≠ 0) :
    namedR nm rest (l.drop k) ((l.take k).map nm) k = ((k : Int), errR nm rest l k x) := by
  rw [hd, namedR]
  unfold errR at h0 ⊢
  split
  · rename_i h; rfl
  rename_i h1
  rw [if_neg h1] at h0
  split
  · rfl
  rename_i h2
  rw [if_neg h2] at h0
  rw [if_pos h0]
theorem namedR_end {α : Type} {nm : α → ByteArray} {rest : α → Int} {l : List α} {k : Nat} (hk : l.length ≤ k) : namedR nm rest (l.drop k) ((l.take k).map nm) k = (0, 0) := by
  rw [List.drop_of_length_le hk]; rfl
theorem hasB_take {l : List Int} {j : Nat} {x n : Int} (h : l[j]? = some x) : (l.take (j + 1)).any (fun y => decide (y = n)) = ((l.take j).any (fun y => decide (y = n)) || decide (x = n)) := by
  rw [take_snoc h, List.any_append, List.any_cons, List.any_nil, Bool.or_false]
theorem any_mem {l : List Int} {n : Int} : (l.any fun y => decide (y = n)) = true ↔ n ∈ l := by simp [List.any_eq_true]
theorem chanE_in (x : Chan) : ((!inB x.delay 0 50) || (!inB x.room 0 20)) = (outB x.delay 0 50 || outB x.room 0 20) := by rw [inB_not, inB_not]
def nonB (t : Task) (x : Town) (k : Nat) : Bool := (!inB x.polder 0 (t.polders - 1)) || (x.chans.take k).any fun c => outB c 0 ((t.chans.length : Int) - 1)
def dupB (x : Town) (k : Nat) : Bool := decide (¬ (x.chans.take k).Nodup)
theorem nonB_zero (t : Task) (x : Town) : nonB t x 0 = (!inB x.polder 0 (t.polders - 1)) := by unfold nonB; simp
theorem nonB_succ {t : Task} {x : Town} {k : Nat} {c : Int} (h : x.chans[k]? = some c) : nonB t x (k + 1) = (nonB t x k || !inB c 0 ((t.chans.length : Int) - 1)) := by
  unfold nonB
  rw [take_snoc h, List.any_append, inB_not (a := c)]
  simp [Bool.or_assoc]
theorem dupB_zero (x : Town) : dupB x 0 = false := by unfold dupB; simp
theorem dupB_succ {x : Town} {k : Nat} {c : Int} (h : x.chans[k]? = some c) : dupB x (k + 1) = (dupB x k || (x.chans.take k).any fun y => decide (y = c)) := by
  unfold dupB
  rw [take_snoc h, Bool.eq_iff_iff, Bool.or_eq_true, decide_eq_true_eq, decide_eq_true_eq, any_mem, List.nodup_append]
  constructor
  · intro hn
    by_cases hc : c ∈ x.chans.take k
    · exact .inr hc
    · refine .inl fun hd => hn ⟨hd, by simp, fun a ha b hb => ?_⟩
      rw [List.mem_singleton.1 hb]
      exact fun e => hc (e ▸ ha)
  · rintro (h1 | h1) ⟨h2, -, h3⟩
    · exact h1 h2
    · exact h3 c h1 c (List.mem_singleton.2 rfl) rfl
theorem townE_4 {t : Task} {x : Town} (h : nonB t x x.chans.length = true) : townE t.polders t.chans.length x = 4 := by
  unfold nonB at h; rw [List.take_length, inB_not] at h
  unfold townE; rw [if_pos h]
theorem townE_5 {t : Task} {x : Town} (h : nonB t x x.chans.length = false) (h2 : dupB x x.chans.length = true) : townE t.polders t.chans.length x = 5 := by
  unfold nonB at h; rw [List.take_length, inB_not] at h
  unfold dupB at h2; rw [List.take_length, decide_eq_true_eq] at h2
  unfold townE; rw [if_neg (by rw [h]; decide), if_pos h2]
theorem townE_7 {t : Task} {x : Town} (h : nonB t x x.chans.length = false) (h2 : dupB x x.chans.length = false) : townE t.polders t.chans.length x = if ((!inB x.travel 0 500) || (!inB x.lead 0 500)) = true then 7 else 0 := by
  unfold nonB at h; rw [List.take_length, inB_not] at h
  unfold dupB at h2; rw [List.take_length, decide_eq_false_iff_not] at h2
  unfold townE; rw [if_neg (by rw [h]; decide), if_neg h2, inB_not, inB_not]
end Bx

/- part Aw27 -/
namespace Go.Proofs.YtmoilbakmlekbaaGreatDoor
open Go Bx
/-- barrage/barrageref11.in -/
theorem c_rin {a lo hi : Int} {w0 : World} : CV Tryz.prog 66 #[.int .i64 a, .int .i64 lo, .int .i64 hi] w0 (.bool (inB a lo hi)) := by
  refine enter Tryz.func66 rfl Tryz.ntmps66 rfl ?_
  have hS := St.start w0
  refine seq ?_
  refine region ?_
  refine sv (yAsg rfl) ?_
  refine nil ?_
  show Code.wp _ _ _ _ _
  refine seq ?_
  refine region ?_
  refine sv (yMove rfl) ?_
  refine sv (yMove rfl) ?_
  refine sv (yGeq rfl rfl) ?_
  refine sv (yMove rfl) ?_
  refine sg rfl rfl rfl (fun g => (yMove rfl)) (fun v11 g11 => ?_)
  refine sg rfl rfl rfl (fun g => (yMove rfl)) (fun v12 g12 => ?_)
  refine sg rfl rfl rfl (fun g => (yLeq (g11.1 g) (g12.1 g))) (fun v13 g13 => ?_)
  refine sv (yAnd rfl (fun hB => (g13.1 hB)) rfl) ?_
  refine sv (yAsg rfl) ?_
  refine nil ?_
  show Code.wp _ _ _ _ _
  refine wp_ret ?_
  exact retV (res1 rfl rfl) hS.ext
/-- barrage/barrageref11.tick -/
theorem c_rtick {a : Int} {w0 : World} : CV Tryz.prog 73 #[.int .i64 a] w0 (.bool (inB a 0 200000)) := by
  refine enter Tryz.func73 rfl Tryz.ntmps73 rfl ?_
  have hS := St.start w0
  refine seq ?_
  refine region ?_
  refine sv (yAsg rfl) ?_
  refine nil ?_
  show Code.wp _ _ _ _ _
  refine seq ?_
  refine region ?_
  refine sv (yMove rfl) ?_
  refine scall Tryz.call66 (.cons rfl (.cons rfl (.cons rfl .nil))) c_rin ?_
  rintro _ w ⟨rfl, hE⟩; replace hS := hS.step hE; clear hE
  refine sv (yAsg rfl) ?_
  refine nil ?_
  show Code.wp _ _ _ _ _
  refine wp_ret ?_
  exact retV (res1 rfl rfl) hS.ext
set_option maxHeartbeats 1000000 in
/-- barrage/barrageref11.channel -/
theorem c_rchan {t : Task} {hv nv fv : Value} {i : Nat} {x : Chan} {w0 : World} (h : RTask w0 [.int .i64 t.polders, hv, nv, fv] t) (hx : t.chans[i]? = some x) : CV Tryz.prog 67 #[.agg [.int .i64 t.polders, hv, nv, fv].toArray, .int .i64 (i : Int)] w0 (.int .i64 (errR (·.name) chanE t.chans i x)) := by
  obtain ⟨hv', nv', fv', he0, hpol, hsh, hsn, hsf⟩ := id h
  obtain ⟨rfl, rfl, rfl⟩ : hv' = hv ∧ nv' = nv ∧ fv' = fv := by simpa [eq_comm] using he0
  obtain ⟨a1, cap1, rfl, hcap1, hmx1, hel1⟩ := id hsh
  obtain ⟨a2, cap2, rfl, hcap2, hmx2, hel2⟩ := id hsn
  obtain ⟨a3, cap3, rfl, hcap3, hmx3, hel3⟩ := id hsf
  have hil := (List.getElem?_eq_some_iff.1 hx).1
  obtain ⟨bq, oq, csq, haq, hlq, hcsq, hRq, -⟩ := sl_at hsh hx
  obtain ⟨rfl, hnm, -⟩ := hRq
  refine enter Tryz.func67 rfl Tryz.ntmps67 rfl ?_
  have hS := St.start w0
  refine seq ?_
  refine region ?_
  refine sbox hS rfl rfl ?_; clear hS; intro b2 w hS
  refine sv (yAsg rfl) ?_
  refine nil ?_
  show Code.wp _ _ _ _ _
  refine seq ?_
  refine region ?_
  refine sv (fa26_1 rfl) ?_
  refine sv (yLdB rfl Tryz.isAgg22 (hS.at _) rfl) ?_
  refine sv (yMove rfl) ?_
  refine sv (yIxa rfl haq rfl Tryz.runUnderlying22 Tryz.sizeOf41 (by omega) (by omega)) ?_
  refine sv (yLdA rfl Tryz.isAgg41 Tryz.sizeOf41 (hcsq.ext hS.ext) rfl) ?_
  refine salloc hS Tryz.zeroValue41 rfl ?_; clear hS; intro b5 w hS
  refine sst hS rfl rfl Tryz.sizeOf41 rfl rfl rfl rfl ?_; clear hS; intro w hS
  refine nil ?_
  show Code.wp _ _ _ _ _
  refine seq ?_
  refine seq ?_
  refine region ?_
  replace hS : StX [] w0 w (blk b5 (chanC x) 41 :: blk b2 [.int .i64 t.polders, .slice a1 t.chans.length cap1, .slice a2 t.towns.length cap2, .slice a3 t.floods.length cap3] 26 :: []) := hS
  refine sv (fa41_0 rfl) ?_
  refine sv (yLdB rfl Tryz.isAgg9 (hS.at _) rfl) ?_
  refine scall Tryz.call115 (.cons rfl .nil) (c_rName hnm) ?_
  rintro _ w ⟨rfl, hE⟩; replace hS := hS.step hE; clear hE
  refine sv (yNot rfl) ?_
  refine nil ?_
  show Code.wp _ _ _ _ _
  refine cond rfl (fun c15 => ?_) (fun c15 => ?_)
  ·
    refine seq ?_
    refine region ?_
    refine sv (yAsg rfl) ?_
    refine nil ?_
    show Code.wp _ _ _ _ _
    refine wp_ret (thenR ?_)
    exact retV (res1 rfl (eqI (errR_form c15))) hS.ext
  ·
    refine skip ?_
    show Code.wp _ _ _ _ _
    refine seq ?_
    refine seq ?_
    refine region ?_
    refine sv (yAsg rfl) ?_
    refine nil ?_
    show Code.wp _ _ _ _ _
    refine block ?_
    refine loop (fun f w zz => ∃ (k : Nat), f 1 = .int .i64 (i : Int) ∧ f 2 = .pointer (some ⟨b2, 0, none⟩) ∧ f 5 = .pointer (some ⟨b5, 0, none⟩) ∧ f 6 = .int .i64 (k : Int) ∧ StX [] w0 w [blk b5 (chanC x) 41, blk b2 [.int .i64 t.polders, .slice a1 t.chans.length cap1, .slice a2 t.towns.length cap2, .slice a3 t.floods.length cap3] 26] ∧ (k ≤ i) ∧ (∀ q, q < k → ∀ u : Chan, t.chans[q]? = some u → u.name ≠ x.name) ∧ zz = i - k) _ ⟨_, rfl, 0, rfl, rfl, rfl, rfl, hS, (Nat.zero_le _), (fun q hq => absurd hq (Nat.not_lt_zero q)), rfl⟩ ?_
    clear hS
    rintro f w _ ⟨k, h1, h2, h5, h6, hS, hk, hN, rfl⟩
    refine seq ?_
    refine seq ?_
    refine region ?_
    refine sv (yMove h6) ?_
    refine sv (yMove h1) ?_
    refine sv (yLss rfl rfl) ?_
    refine nil ?_
    show Code.wp _ _ _ _ _
    refine cond rfl (fun c18 => ?_) (fun c18 => ?_)
    ·
      simp only [Bool.and_eq_true, Bool.or_eq_true, Bool.and_eq_false_iff, Bool.or_eq_false_iff, decide_eq_true_eq, decide_eq_false_iff_not, Bool.not_eq_true, Bool.not_eq_false, Bool.not_not, Bool.not_eq_eq_eq_not, Bool.not_true, Bool.not_false, Bool.false_eq_true, Bool.true_eq_false, ne_eq, Decidable.not_not, not_false_eq_true, not_true_eq_false] at c18
      refine skip ?_
      show Code.wp _ _ _ _ _
      refine seq ?_
      refine block ?_
      refine seq ?_
      refine region_draw mixed (by kernel_rfl) hS ?_
      obtain ⟨u, hxu, -⟩ := drop_of (l := t.chans) (k := k) (by omega)
      obtain ⟨bu, ou, csu, hau, hlu, hcsu, hRu, -⟩ := sl_at hsh hxu
      obtain ⟨rfl, -⟩ := hRu
      refine qv (fun w hS => (fa26_1 h2)) ?_
      refine qv (fun w hS => (yLdB rfl Tryz.isAgg22 (hS.at _) rfl)) ?_
      refine qv (fun w hS => (yMove h6)) ?_
      refine qv (fun w hS => (yIxa rfl hau rfl Tryz.runUnderlying22 Tryz.sizeOf41 (by omega) (by omega))) ?_
      refine qv (fun w hS => (fa41_0 rfl)) ?_
      refine qv (fun w hS => (yLd rfl Tryz.isAgg9 ((hcsu.ext hS.ext).at (j := 0) rfl))) ?_
      refine qv (fun w hS => (fa41_0 h5)) ?_
      refine qv (fun w hS => (yLdB rfl Tryz.isAgg9 (hS.at _) rfl)) ?_
      refine qv (fun w hS => (ySEq rfl rfl)) ?_
      clear hS; refine qnil (fun w hS => ?_)
      show Code.wp _ _ _ _ _
      refine cond rfl (fun c29 => ?_) (fun c29 => ?_)
      ·
        simp only [Bool.and_eq_true, Bool.or_eq_true, Bool.and_eq_false_iff, Bool.or_eq_false_iff, decide_eq_true_eq, decide_eq_false_iff_not, Bool.not_eq_true, Bool.not_eq_false, Bool.not_not, Bool.not_eq_eq_eq_not, Bool.not_true, Bool.not_false, Bool.false_eq_true, Bool.true_eq_false, ne_eq, Decidable.not_not, not_false_eq_true, not_true_eq_false] at c29
        refine seq ?_
        refine region ?_
        refine sv (yAsg rfl) ?_
        refine nil ?_
        show Code.wp _ _ _ _ _
        refine wp_ret (blockR (thenR (thenR (blockR (thenR ?_)))))
        exact retV (res1 rfl (eqI (errR_twice c15 hxu (by omega) c29))) hS.ext
      ·
        simp only [Bool.and_eq_true, Bool.or_eq_true, Bool.and_eq_false_iff, Bool.or_eq_false_iff, decide_eq_true_eq, decide_eq_false_iff_not, Bool.not_eq_true, Bool.not_eq_false, Bool.not_not, Bool.not_eq_eq_eq_not, Bool.not_true, Bool.not_false, Bool.false_eq_true, Bool.true_eq_false, ne_eq, Decidable.not_not, not_false_eq_true, not_true_eq_false] at c29
        refine skip ?_
        show Code.wp _ _ _ _ _
        refine region ?_
        refine sv (yMove h6) ?_
        refine sv (yAdd rfl rfl ⟨by omega, by omega⟩) ?_
        refine sv (yAsg rfl) ?_
        refine nil ?_
        exact ⟨_, _, rfl, ⟨k + 1, h1, h2, h5, rfl, hS, (by omega), (snoc hN (fun v hv => by cases Option.some.inj (hxu.symm.trans hv); exact c29)), rfl⟩, by omega⟩
    ·
      simp only [Bool.and_eq_true, Bool.or_eq_true, Bool.and_eq_false_iff, Bool.or_eq_false_iff, decide_eq_true_eq, decide_eq_false_iff_not, Bool.not_eq_true, Bool.not_eq_false, Bool.not_not, Bool.not_eq_eq_eq_not, Bool.not_true, Bool.not_false, Bool.false_eq_true, Bool.true_eq_false, ne_eq, Decidable.not_not, not_false_eq_true, not_true_eq_false] at c18
      have hne : errR (·.name) chanE t.chans i x = chanE x := errR_rest c15 (fun q hq => hN q (by omega))
      refine exit ?_
      show Code.wp _ _ _ _ _
      refine seq ?_
      refine seq ?_
      refine region ?_
      refine sv (fa41_1 h5) ?_
      refine sv (yLdB rfl Tryz.isAgg3 (hS.at _) rfl) ?_
      refine scall Tryz.call66 (.cons rfl (.cons rfl (.cons rfl .nil))) c_rin ?_
      rintro _ w ⟨rfl, hE⟩; replace hS := hS.step hE; clear hE
      refine sv (yNot rfl) ?_
      refine sv (yMove rfl) ?_
      refine sg rfl rfl rfl (fun g => (fa41_2 h5)) (fun v35 g35 => ?_)
      refine sg rfl rfl rfl (fun g => (yLdB (g35.1 g) Tryz.isAgg3 (hS.at _) rfl)) (fun v36 g36 => ?_)
      refine sgc hS rfl rfl rfl Tryz.call66 (fun g => (.cons (g36.1 g) (.cons rfl (.cons rfl .nil)))) (fun g => c_rin) ?_; clear hS; intro v37 w hS g37
      refine sg rfl rfl rfl (fun g => (yNot (g37.1 g))) (fun v38 g38 => ?_)
      refine sv (yOr rfl rfl (fun hB => (g38.1 hB))) ?_
      refine nil ?_
      show Code.wp _ _ _ _ _
      refine cond rfl (fun c39 => ?_) (fun c39 => ?_)
      ·
        refine seq ?_
        refine region ?_
        refine sv (yAsg rfl) ?_
        refine nil ?_
        show Code.wp _ _ _ _ _
        refine wp_ret (thenR ?_)
        exact retV (res1 rfl (eqI (hne.trans (if_pos (by rw [← chanE_in]; exact c39))))) hS.ext
      ·
        refine skip ?_
        show Code.wp _ _ _ _ _
        refine seq ?_
        refine region ?_
        refine sv (yAsg rfl) ?_
        refine nil ?_
        show Code.wp _ _ _ _ _
        refine wp_ret ?_
        exact retV (res1 rfl (eqI (hne.trans (if_neg (by rw [← chanE_in]; rw [show ((!inB x.delay 0 50) || (!inB x.room 0 20)) = false from c39]; decide))))) hS.ext
end Go.Proofs.YtmoilbakmlekbaaGreatDoor

/- part Aw28 -/
namespace Go.Proofs.YtmoilbakmlekbaaGreatDoor
open Go Bx
set_option maxHeartbeats 2000000 in
/-- barrage/barrageref11.town -/
theorem c_rtown {t : Task} {hv nv fv : Value} {i : Nat} {x : Town} {w0 : World} (h : RTask w0 [.int .i64 t.polders, hv, nv, fv] t) (hx : t.towns[i]? = some x) (hp : 0 ≤ t.polders ∧ t.polders ≤ 6) : CV Tryz.prog 68 #[.agg [.int .i64 t.polders, hv, nv, fv].toArray, .int .i64 (i : Int)] w0 (.int .i64 (errR (·.name) (townE t.polders t.chans.length) t.towns i x)) := by
  obtain ⟨hv', nv', fv', he0, hpol, hsh, hsn, hsf⟩ := id h
  obtain ⟨rfl, rfl, rfl⟩ : hv' = hv ∧ nv' = nv ∧ fv' = fv := by simpa [eq_comm] using he0
  obtain ⟨a1, cap1, rfl, hcap1, hmx1, hel1⟩ := id hsh
  obtain ⟨a2, cap2, rfl, hcap2, hmx2, hel2⟩ := id hsn
  obtain ⟨a3, cap3, rfl, hcap3, hmx3, hel3⟩ := id hsf
  have hil := (List.getElem?_eq_some_iff.1 hx).1
  obtain ⟨bq, oq, csq, haq, hlq, hcsq, hRq, -⟩ := sl_at hsn hx
  obtain ⟨dv, rfl, hnm, -, -, -, hsd, -⟩ := hRq
  obtain ⟨ad, cd, rfl, hdcap, hdmx, held⟩ := id hsd
  refine enter Tryz.func68 rfl Tryz.ntmps68 rfl ?_
  have hS := St.start w0
  refine seq ?_
  refine region ?_
  refine sbox hS rfl rfl ?_; clear hS; intro b2 w hS
  refine sv (yAsg rfl) ?_
  refine nil ?_
  show Code.wp _ _ _ _ _
  refine seq ?_
  refine region ?_
  refine sv (fa26_2 rfl) ?_
  refine sv (yLdB rfl Tryz.isAgg23 (hS.at _) rfl) ?_
  refine sv (yMove rfl) ?_
  refine sv (yIxa rfl haq rfl Tryz.runUnderlying23 Tryz.sizeOf36 (by omega) (by omega)) ?_
  refine sv (yLdA rfl Tryz.isAgg36 Tryz.sizeOf36 (hcsq.ext hS.ext) rfl) ?_
  refine salloc hS Tryz.zeroValue36 rfl ?_; clear hS; intro b5 w hS
  refine sst hS rfl rfl Tryz.sizeOf36 rfl rfl rfl rfl ?_; clear hS; intro w hS
  refine nil ?_
  show Code.wp _ _ _ _ _
  refine seq ?_
  refine seq ?_
  refine region ?_
  replace hS : StX [] w0 w (blk b5 [.string x.name, .int .i64 x.polder, .int .i64 x.travel, .int .i64 x.lead, .slice ad x.chans.length cd] 36 :: blk b2 [.int .i64 t.polders, .slice a1 t.chans.length cap1, .slice a2 t.towns.length cap2, .slice a3 t.floods.length cap3] 26 :: []) := hS
  refine sv (fa36_0 rfl) ?_
  refine sv (yLdB rfl Tryz.isAgg9 (hS.at _) rfl) ?_
  refine scall Tryz.call115 (.cons rfl .nil) (c_rName hnm) ?_
  rintro _ w ⟨rfl, hE⟩; replace hS := hS.step hE; clear hE
  refine sv (yNot rfl) ?_
  refine nil ?_
  show Code.wp _ _ _ _ _
  refine cond rfl (fun c19 => ?_) (fun c19 => ?_)
  ·
    refine seq ?_
    refine region ?_
    refine sv (yAsg rfl) ?_
    refine nil ?_
    show Code.wp _ _ _ _ _
    refine wp_ret (thenR ?_)
    exact retV (res1 rfl (eqI (errR_form c19))) hS.ext
  ·
    refine skip ?_
    show Code.wp _ _ _ _ _
    refine seq ?_
    refine seq ?_
    refine region ?_
    refine sv (yAsg rfl) ?_
    refine nil ?_
    show Code.wp _ _ _ _ _
    refine block ?_
    refine loop (fun f w zz => ∃ (k : Nat), f 1 = .int .i64 (i : Int) ∧ f 2 = .pointer (some ⟨b2, 0, none⟩) ∧ f 5 = .pointer (some ⟨b5, 0, none⟩) ∧ f 6 = .int .i64 (k : Int) ∧ StX [] w0 w [blk b5 [.string x.name, .int .i64 x.polder, .int .i64 x.travel, .int .i64 x.lead, .slice ad x.chans.length cd] 36, blk b2 [.int .i64 t.polders, .slice a1 t.chans.length cap1, .slice a2 t.towns.length cap2, .slice a3 t.floods.length cap3] 26] ∧ (k ≤ i) ∧ (∀ q, q < k → ∀ u : Town, t.towns[q]? = some u → u.name ≠ x.name) ∧ zz = i - k) _ ⟨_, rfl, 0, rfl, rfl, rfl, rfl, hS, (Nat.zero_le _), (fun q hq => absurd hq (Nat.not_lt_zero q)), rfl⟩ ?_
    clear hS
    rintro f w _ ⟨k, h1, h2, h5, h6, hS, hk, hN, rfl⟩
    refine seq ?_
    refine seq ?_
    refine region ?_
    refine sv (yMove h6) ?_
    refine sv (yMove h1) ?_
    refine sv (yLss rfl rfl) ?_
    refine nil ?_
    show Code.wp _ _ _ _ _
    refine cond rfl (fun c22 => ?_) (fun c22 => ?_)
    ·
      simp only [Bool.and_eq_true, Bool.or_eq_true, Bool.and_eq_false_iff, Bool.or_eq_false_iff, decide_eq_true_eq, decide_eq_false_iff_not, Bool.not_eq_true, Bool.not_eq_false, Bool.not_not, Bool.not_eq_eq_eq_not, Bool.not_true, Bool.not_false, Bool.false_eq_true, Bool.true_eq_false, ne_eq, Decidable.not_not, not_false_eq_true, not_true_eq_false] at c22
      refine skip ?_
      show Code.wp _ _ _ _ _
      refine seq ?_
      refine block ?_
      refine seq ?_
      refine region_draw mixed (by kernel_rfl) hS ?_
      obtain ⟨u, hxu, -⟩ := drop_of (l := t.towns) (k := k) (by omega)
      obtain ⟨bu, ou, csu, hau, hlu, hcsu, hRu, -⟩ := sl_at hsn hxu
      obtain ⟨duv, rfl, -⟩ := hRu
      refine qv (fun w hS => (fa26_2 h2)) ?_
      refine qv (fun w hS => (yLdB rfl Tryz.isAgg23 (hS.at _) rfl)) ?_
      refine qv (fun w hS => (yMove h6)) ?_
      refine qv (fun w hS => (yIxa rfl hau rfl Tryz.runUnderlying23 Tryz.sizeOf36 (by omega) (by omega))) ?_
      refine qv (fun w hS => (fa36_0 rfl)) ?_
      refine qv (fun w hS => (yLd rfl Tryz.isAgg9 ((hcsu.ext hS.ext).at (j := 0) rfl))) ?_
      refine qv (fun w hS => (fa36_0 h5)) ?_
      refine qv (fun w hS => (yLdB rfl Tryz.isAgg9 (hS.at _) rfl)) ?_
      refine qv (fun w hS => (ySEq rfl rfl)) ?_
      clear hS; refine qnil (fun w hS => ?_)
      show Code.wp _ _ _ _ _
      refine cond rfl (fun c33 => ?_) (fun c33 => ?_)
      ·
        simp only [Bool.and_eq_true, Bool.or_eq_true, Bool.and_eq_false_iff, Bool.or_eq_false_iff, decide_eq_true_eq, decide_eq_false_iff_not, Bool.not_eq_true, Bool.not_eq_false, Bool.not_not, Bool.not_eq_eq_eq_not, Bool.not_true, Bool.not_false, Bool.false_eq_true, Bool.true_eq_false, ne_eq, Decidable.not_not, not_false_eq_true, not_true_eq_false] at c33
        refine seq ?_
        refine region ?_
        refine sv (yAsg rfl) ?_
        refine nil ?_
        show Code.wp _ _ _ _ _
        refine wp_ret (blockR (thenR (thenR (blockR (thenR ?_)))))
        exact retV (res1 rfl (eqI (errR_twice c19 hxu (by omega) c33))) hS.ext
      ·
        simp only [Bool.and_eq_true, Bool.or_eq_true, Bool.and_eq_false_iff, Bool.or_eq_false_iff, decide_eq_true_eq, decide_eq_false_iff_not, Bool.not_eq_true, Bool.not_eq_false, Bool.not_not, Bool.not_eq_eq_eq_not, Bool.not_true, Bool.not_false, Bool.false_eq_true, Bool.true_eq_false, ne_eq, Decidable.not_not, not_false_eq_true, not_true_eq_false] at c33
        refine skip ?_
        show Code.wp _ _ _ _ _
        refine region ?_
        refine sv (yMove h6) ?_
        refine sv (yAdd rfl rfl ⟨by omega, by omega⟩) ?_
        refine sv (yAsg rfl) ?_
        refine nil ?_
        exact ⟨_, _, rfl, ⟨k + 1, h1, h2, h5, rfl, hS, (by omega), (snoc hN (fun v hv => by cases Option.some.inj (hxu.symm.trans hv); exact c33)), rfl⟩, by omega⟩
    ·
      simp only [Bool.and_eq_true, Bool.or_eq_true, Bool.and_eq_false_iff, Bool.or_eq_false_iff, decide_eq_true_eq, decide_eq_false_iff_not, Bool.not_eq_true, Bool.not_eq_false, Bool.not_not, Bool.not_eq_eq_eq_not, Bool.not_true, Bool.not_false, Bool.false_eq_true, Bool.true_eq_false, ne_eq, Decidable.not_not, not_false_eq_true, not_true_eq_false] at c22
      have hne : errR (·.name) (townE t.polders t.chans.length) t.towns i x = townE t.polders t.chans.length x := errR_rest c19 (fun q hq => hN q (by omega))
      refine exit ?_
      show Code.wp _ _ _ _ _
      refine seq ?_
      refine region ?_
      refine sv (fa36_1 h5) ?_
      refine sv (yLdB rfl Tryz.isAgg3 (hS.at _) rfl) ?_
      refine sv (fa26_0 h2) ?_
      refine sv (yLdB rfl Tryz.isAgg3 (hS.at _) rfl) ?_
      refine sv (ySub rfl rfl ⟨by omega, by omega⟩) ?_
      refine scall Tryz.call66 (.cons rfl (.cons rfl (.cons rfl .nil))) c_rin ?_
      rintro _ w ⟨rfl, hE⟩; replace hS := hS.step hE; clear hE
      refine sv (yNot rfl) ?_
      refine sv (yAsg rfl) ?_
      refine sv (yAsg rfl) ?_
      refine nil ?_
      show Code.wp _ _ _ _ _
      refine seq ?_
      refine seq ?_
      refine region ?_
      refine sv (yAsg rfl) ?_
      refine nil ?_
      show Code.wp _ _ _ _ _
      refine block ?_
      refine loop (fun f w zz => ∃ (k : Nat), f 2 = .pointer (some ⟨b2, 0, none⟩) ∧ f 5 = .pointer (some ⟨b5, 0, none⟩) ∧ f 7 = .bool (nonB t x k) ∧ f 8 = .bool (dupB x k) ∧ f 9 = .int .i64 (k : Int) ∧ StX [] w0 w [blk b5 [.string x.name, .int .i64 x.polder, .int .i64 x.travel, .int .i64 x.lead, .slice ad x.chans.length cd] 36, blk b2 [.int .i64 t.polders, .slice a1 t.chans.length cap1, .slice a2 t.towns.length cap2, .slice a3 t.floods.length cap3] 26] ∧ (k ≤ x.chans.length) ∧ zz = x.chans.length - k) _ ⟨_, rfl, 0, h2, h5, (rfl.trans (congrArg Value.bool (nonB_zero t x).symm)), (rfl.trans (congrArg Value.bool (dupB_zero x).symm)), rfl, hS, (Nat.zero_le _), rfl⟩ ?_
      clear hS
      rintro f w _ ⟨k, h2, h5, h7, h8, h9, hS, hk, rfl⟩
      refine seq ?_
      refine seq ?_
      refine region ?_
      refine sv (yMove h9) ?_
      refine sv (fa36_4 h5) ?_
      refine sv (yLdB rfl Tryz.isAgg34 (hS.at _) rfl) ?_
      refine sv (yLen rfl Tryz.underlying34) ?_
      refine sv (yLss rfl rfl) ?_
      refine nil ?_
      show Code.wp _ _ _ _ _
      refine cond rfl (fun c45 => ?_) (fun c45 => ?_)
      ·
        simp only [Bool.and_eq_true, Bool.or_eq_true, Bool.and_eq_false_iff, Bool.or_eq_false_iff, decide_eq_true_eq, decide_eq_false_iff_not, Bool.not_eq_true, Bool.not_eq_false, Bool.not_not, Bool.not_eq_eq_eq_not, Bool.not_true, Bool.not_false, Bool.false_eq_true, Bool.true_eq_false, ne_eq, Decidable.not_not, not_false_eq_true, not_true_eq_false] at c45
        obtain ⟨s, hxs, hds⟩ := drop_of (l := x.chans) (k := k) (by omega)
        obtain ⟨bs, os, css, has, hlens, hcss, hRs⟩ := held (k) (by omega)
        obtain rfl : s = x.chans[k] := (List.getElem?_eq_some_iff.1 hxs).2.symm
        generalize x.chans[k] = s at hxs hds hRs
        obtain ⟨rfl, hsi⟩ := hRs
        refine skip ?_
        show Code.wp _ _ _ _ _
        refine seq ?_
        refine block ?_
        refine seq ?_
        refine region_draw mixed (by kernel_rfl) hS ?_
        refine qv (fun w hS => (yMove h7)) ?_
        refine qv (fun w hS => (yMove rfl)) ?_
        refine qg rfl rfl rfl (fun g w hS => (fa36_4 h5)) (fun v50 g50 => ?_)
        refine qg rfl rfl rfl (fun g w hS => (yLdB (g50.1 g) Tryz.isAgg34 (hS.at _) rfl)) (fun v51 g51 => ?_)
        refine qg rfl rfl rfl (fun g w hS => (yMove h9)) (fun v52 g52 => ?_)
        refine qg rfl rfl rfl (fun g w hS => (yIxa (g51.1 g) has (g52.1 g) Tryz.runUnderlying34 Tryz.sizeOf3 (by omega) (by omega))) (fun v53 g53 => ?_)
        refine qg rfl rfl rfl (fun g w hS => (yLd (g53.1 g) Tryz.isAgg3 ((hcss.ext hS.ext).one))) (fun v54 g54 => ?_)
        refine qg rfl rfl rfl (fun g w hS => (fa26_1 h2)) (fun v55 g55 => ?_)
        refine qg rfl rfl rfl (fun g w hS => (yLdB (g55.1 g) Tryz.isAgg22 (hS.at _) rfl)) (fun v56 g56 => ?_)
        refine qg rfl rfl rfl (fun g w hS => (yLen (g56.1 g) Tryz.underlying22)) (fun v57 g57 => ?_)
        refine qg rfl rfl rfl (fun g w hS => (ySub (g57.1 g) rfl ⟨by omega, by omega⟩)) (fun v58 g58 => ?_)
        refine qgc rfl rfl rfl Tryz.call66 (fun g => (.cons (g54.1 g) (.cons rfl (.cons (g58.1 g) .nil)))) (fun g w hS => c_rin) (fun v59 g59 => ?_)
        refine qg rfl rfl rfl (fun g w hS => (yNot (g59.1 g))) (fun v60 g60 => ?_)
        refine qv (fun w hS => (yOr rfl rfl (fun hB => (g60.1 hB)))) ?_
        refine qv (fun w hS => (yAsg rfl)) ?_
        clear hS; refine qnil (fun w hS => ?_)
        show Code.wp _ _ _ _ _
        refine seq ?_
        refine region ?_
        refine sv (yAsg rfl) ?_
        refine nil ?_
        show Code.wp _ _ _ _ _
        refine block ?_
        refine loop (fun f w zz => ∃ (j : Nat), f 2 = .pointer (some ⟨b2, 0, none⟩) ∧ f 5 = .pointer (some ⟨b5, 0, none⟩) ∧ f 7 = .bool (nonB t x (k + 1)) ∧ f 8 = .bool (dupB x k || (x.chans.take j).any fun y => decide (y = s)) ∧ f 9 = .int .i64 (k : Int) ∧ f 10 = .int .i64 (j : Int) ∧ StX [] w0 w [blk b5 [.string x.name, .int .i64 x.polder, .int .i64 x.travel, .int .i64 x.lead, .slice ad x.chans.length cd] 36, blk b2 [.int .i64 t.polders, .slice a1 t.chans.length cap1, .slice a2 t.towns.length cap2, .slice a3 t.floods.length cap3] 26] ∧ (j ≤ k) ∧ zz = k - j) _ ⟨_, rfl, 0, h2, h5, (rfl.trans (congrArg Value.bool (nonB_succ hxs).symm)), (h8.trans (congrArg Value.bool (by simp))), h9, rfl, hS, (Nat.zero_le _), rfl⟩ ?_
        clear hS
        rintro f w _ ⟨j, h2, h5, h7, h8, h9, h10, hS, hj, rfl⟩
        refine seq ?_
        refine seq ?_
        refine region ?_
        refine sv (yMove h10) ?_
        refine sv (yMove h9) ?_
        refine sv (yLss rfl rfl) ?_
        refine nil ?_
        show Code.wp _ _ _ _ _
        refine cond rfl (fun c64 => ?_) (fun c64 => ?_)
        ·
          simp only [Bool.and_eq_true, Bool.or_eq_true, Bool.and_eq_false_iff, Bool.or_eq_false_iff, decide_eq_true_eq, decide_eq_false_iff_not, Bool.not_eq_true, Bool.not_eq_false, Bool.not_not, Bool.not_eq_eq_eq_not, Bool.not_true, Bool.not_false, Bool.false_eq_true, Bool.true_eq_false, ne_eq, Decidable.not_not, not_false_eq_true, not_true_eq_false] at c64
          obtain ⟨z, hxz, hdz⟩ := drop_of (l := x.chans) (k := j) (by omega)
          obtain ⟨bz, oz, csz, haz, hlenz, hcsz, hRz⟩ := held (j) (by omega)
          obtain rfl : z = x.chans[j] := (List.getElem?_eq_some_iff.1 hxz).2.symm
          generalize x.chans[j] = z at hxz hdz hRz
          obtain ⟨rfl, hzi⟩ := hRz
          refine skip ?_
          show Code.wp _ _ _ _ _
          refine seq ?_
          refine block ?_
          refine region_draw mixed (by kernel_rfl) hS ?_
          refine qv (fun w hS => (yMove h8)) ?_
          refine qv (fun w hS => (yMove rfl)) ?_
          refine qg rfl rfl rfl (fun g w hS => (fa36_4 h5)) (fun v69 g69 => ?_)
          refine qg rfl rfl rfl (fun g w hS => (yLdB (g69.1 g) Tryz.isAgg34 (hS.at _) rfl)) (fun v70 g70 => ?_)
          refine qg rfl rfl rfl (fun g w hS => (yMove h10)) (fun v71 g71 => ?_)
          refine qg rfl rfl rfl (fun g w hS => (yIxa (g70.1 g) haz (g71.1 g) Tryz.runUnderlying34 Tryz.sizeOf3 (by omega) (by omega))) (fun v72 g72 => ?_)
          refine qg rfl rfl rfl (fun g w hS => (yLd (g72.1 g) Tryz.isAgg3 ((hcsz.ext hS.ext).one))) (fun v73 g73 => ?_)
          refine qg rfl rfl rfl (fun g w hS => (fa36_4 h5)) (fun v74 g74 => ?_)
          refine qg rfl rfl rfl (fun g w hS => (yLdB (g74.1 g) Tryz.isAgg34 (hS.at _) rfl)) (fun v75 g75 => ?_)
          refine qg rfl rfl rfl (fun g w hS => (yMove h9)) (fun v76 g76 => ?_)
          refine qg rfl rfl rfl (fun g w hS => (yIxa (g75.1 g) has (g76.1 g) Tryz.runUnderlying34 Tryz.sizeOf3 (by omega) (by omega))) (fun v77 g77 => ?_)
          refine qg rfl rfl rfl (fun g w hS => (yLd (g77.1 g) Tryz.isAgg3 ((hcss.ext hS.ext).one))) (fun v78 g78 => ?_)
          refine qg rfl rfl rfl (fun g w hS => (yEql (g73.1 g) (g78.1 g))) (fun v79 g79 => ?_)
          refine qv (fun w hS => (yOr rfl rfl (fun hB => (g79.1 hB)))) ?_
          refine qv (fun w hS => (yAsg rfl)) ?_
          clear hS; refine qnil (fun w hS => ?_)
          show Code.wp _ _ _ _ _
          refine region ?_
          refine sv (yMove h10) ?_
          refine sv (yAdd rfl rfl ⟨by omega, by omega⟩) ?_
          refine sv (yAsg rfl) ?_
          refine nil ?_
          exact ⟨_, _, rfl, ⟨j + 1, h2, h5, h7, (rfl.trans (congrArg Value.bool (by rw [hasB_take hxz, Bool.or_assoc]))), h9, rfl, hS, (by omega), rfl⟩, by omega⟩
        ·
          simp only [Bool.and_eq_true, Bool.or_eq_true, Bool.and_eq_false_iff, Bool.or_eq_false_iff, decide_eq_true_eq, decide_eq_false_iff_not, Bool.not_eq_true, Bool.not_eq_false, Bool.not_not, Bool.not_eq_eq_eq_not, Bool.not_true, Bool.not_false, Bool.false_eq_true, Bool.true_eq_false, ne_eq, Decidable.not_not, not_false_eq_true, not_true_eq_false] at c64
          obtain rfl : k = j := by omega
          refine exit ?_
          show Code.wp _ _ _ _ _
          refine region ?_
          refine sv (yMove h9) ?_
          refine sv (yAdd rfl rfl ⟨by omega, by omega⟩) ?_
          refine sv (yAsg rfl) ?_
          refine nil ?_
          exact ⟨_, _, rfl, ⟨k + 1, h2, h5, h7, (h8.trans (congrArg Value.bool (by rw [dupB_succ hxs]))), rfl, hS, (by omega), rfl⟩, by omega⟩
      ·
        simp only [Bool.and_eq_true, Bool.or_eq_true, Bool.and_eq_false_iff, Bool.or_eq_false_iff, decide_eq_true_eq, decide_eq_false_iff_not, Bool.not_eq_true, Bool.not_eq_false, Bool.not_not, Bool.not_eq_eq_eq_not, Bool.not_true, Bool.not_false, Bool.false_eq_true, Bool.true_eq_false, ne_eq, Decidable.not_not, not_false_eq_true, not_true_eq_false] at c45
        obtain rfl : k = x.chans.length := by omega
        refine exit ?_
        show Code.wp _ _ _ _ _
        refine seq ?_
        refine seq ?_
        refine region ?_
        refine sv (yMove h7) ?_
        refine nil ?_
        show Code.wp _ _ _ _ _
        refine cond rfl (fun c81 => ?_) (fun c81 => ?_)
        ·
          refine seq ?_
          refine region ?_
          refine sv (yAsg rfl) ?_
          refine nil ?_
          show Code.wp _ _ _ _ _
          refine wp_ret (thenR ?_)
          exact retV (res1 rfl (eqI (hne.trans (townE_4 c81)))) hS.ext
        ·
          refine skip ?_
          show Code.wp _ _ _ _ _
          refine seq ?_
          refine seq ?_
          refine region ?_
          refine sv (yMove h8) ?_
          refine nil ?_
          show Code.wp _ _ _ _ _
          refine cond rfl (fun c82 => ?_) (fun c82 => ?_)
          ·
            refine seq ?_
            refine region ?_
            refine sv (yAsg rfl) ?_
            refine nil ?_
            show Code.wp _ _ _ _ _
            refine wp_ret (thenR ?_)
            exact retV (res1 rfl (eqI (hne.trans (townE_5 c81 c82)))) hS.ext
          ·
            refine skip ?_
            show Code.wp _ _ _ _ _
            refine seq ?_
            refine seq ?_
            refine region ?_
            refine sv (fa36_2 h5) ?_
            refine sv (yLdB rfl Tryz.isAgg3 (hS.at _) rfl) ?_
            refine scall Tryz.call66 (.cons rfl (.cons rfl (.cons rfl .nil))) c_rin ?_
            rintro _ w ⟨rfl, hE⟩; replace hS := hS.step hE; clear hE
            refine sv (yNot rfl) ?_
            refine sv (yMove rfl) ?_
            refine sg rfl rfl rfl (fun g => (fa36_3 h5)) (fun v88 g88 => ?_)
            refine sg rfl rfl rfl (fun g => (yLdB (g88.1 g) Tryz.isAgg3 (hS.at _) rfl)) (fun v89 g89 => ?_)
            refine sgc hS rfl rfl rfl Tryz.call66 (fun g => (.cons (g89.1 g) (.cons rfl (.cons rfl .nil)))) (fun g => c_rin) ?_; clear hS; intro v90 w hS g90
            refine sg rfl rfl rfl (fun g => (yNot (g90.1 g))) (fun v91 g91 => ?_)
            refine sv (yOr rfl rfl (fun hB => (g91.1 hB))) ?_
            refine nil ?_
            show Code.wp _ _ _ _ _
            refine cond rfl (fun c92 => ?_) (fun c92 => ?_)
            ·
              refine seq ?_
              refine region ?_
              refine sv (yAsg rfl) ?_
              refine nil ?_
              show Code.wp _ _ _ _ _
              refine wp_ret (thenR ?_)
              exact retV (res1 rfl (eqI (hne.trans ((townE_7 c81 c82).trans (if_pos c92))))) hS.ext
            ·
              refine skip ?_
              show Code.wp _ _ _ _ _
              refine seq ?_
              refine region ?_
              refine sv (yAsg rfl) ?_
              refine nil ?_
              show Code.wp _ _ _ _ _
              refine wp_ret ?_
              exact retV (res1 rfl (eqI (hne.trans ((townE_7 c81 c82).trans (if_neg (by rw [show ((!inB x.travel 0 500) || (!inB x.lead 0 500)) = false from c92]; decide)))))) hS.ext
end Go.Proofs.YtmoilbakmlekbaaGreatDoor

/- part Aw29 -/
namespace Go.Proofs.YtmoilbakmlekbaaGreatDoor
open Go Bx
set_option maxHeartbeats 2000000 in
/-- barrage/barrageref11.Check -/
theorem c_rCheck {t : Task} {hv nv fv : Value} {w0 : World} (h : RTask w0 [.int .i64 t.polders, hv, nv, fv] t) : CV Tryz.prog 22 #[.agg [.int .i64 t.polders, hv, nv, fv].toArray] w0 (.tuple #[.int .i64 (checkA t).1, .int .i64 (checkA t).2.1, .int .i64 (checkA t).2.2]) := by
  obtain ⟨hv', nv', fv', he0, hpol, hsh, hsn, hsf⟩ := id h
  obtain ⟨rfl, rfl, rfl⟩ : hv' = hv ∧ nv' = nv ∧ fv' = fv := by simpa [eq_comm] using he0
  obtain ⟨a1, cap1, rfl, hcap1, hmx1, hel1⟩ := id hsh
  obtain ⟨a2, cap2, rfl, hcap2, hmx2, hel2⟩ := id hsn
  obtain ⟨a3, cap3, rfl, hcap3, hmx3, hel3⟩ := id hsf
  refine enter Tryz.func22 rfl Tryz.ntmps22 rfl ?_
  have hS := St.start w0
  refine seq ?_
  refine region ?_
  refine sbox hS rfl rfl ?_; clear hS; intro b1 w hS
  refine sv (yAsg rfl) ?_
  refine sv (yAsg rfl) ?_
  refine sv (yAsg rfl) ?_
  refine nil ?_
  show Code.wp _ _ _ _ _
  refine seq ?_
  refine seq ?_
  refine region ?_
  refine sv (fa26_0 rfl) ?_
  refine sv (yLdB rfl Tryz.isAgg3 (hS.at _) rfl) ?_
  refine scall Tryz.call66 (.cons rfl (.cons rfl (.cons rfl .nil))) c_rin ?_
  rintro _ w ⟨rfl, hE⟩; replace hS := hS.step hE; clear hE
  refine sv (yNot rfl) ?_
  refine nil ?_
  show Code.wp _ _ _ _ _
  refine cond rfl (fun c14 => ?_) (fun c14 => ?_)
  ·
    have h14 : outB t.polders 0 6 = true := by rw [← inB_not]; exact c14
    refine seq ?_
    refine region ?_
    refine sv (yAsg rfl) ?_
    refine sv (yAsg rfl) ?_
    refine sv (yAsg rfl) ?_
    refine nil ?_
    show Code.wp _ _ _ _ _
    have hfin : checkA t = (1, 0, 7) := by unfold checkA; rw [if_pos h14]
    refine wp_ret (thenR ?_)
    exact retV (res3 rfl (fstI hfin) (thd1I hfin) (thd2I hfin)) hS.ext
  ·
    have h14 : outB t.polders 0 6 = false := by rw [← inB_not]; exact c14
    have hp := outB_false.1 h14
    refine skip ?_
    show Code.wp _ _ _ _ _
    refine seq ?_
    refine seq ?_
    refine region ?_
    refine sv (fa26_1 rfl) ?_
    refine sv (yLdB rfl Tryz.isAgg22 (hS.at _) rfl) ?_
    refine sv (yLen rfl Tryz.underlying22) ?_
    refine sv (yGtr rfl rfl) ?_
    refine nil ?_
    show Code.wp _ _ _ _ _
    refine cond rfl (fun c18 => ?_) (fun c18 => ?_)
    ·
      simp only [Bool.and_eq_true, Bool.or_eq_true, Bool.and_eq_false_iff, Bool.or_eq_false_iff, decide_eq_true_eq, decide_eq_false_iff_not, Bool.not_eq_true, Bool.not_eq_false, Bool.not_not, Bool.not_eq_eq_eq_not, Bool.not_true, Bool.not_false, Bool.false_eq_true, Bool.true_eq_false, ne_eq, Decidable.not_not, not_false_eq_true, not_true_eq_false] at c18
      refine seq ?_
      refine region ?_
      refine sv (yAsg rfl) ?_
      refine sv (yAsg rfl) ?_
      refine sv (yAsg rfl) ?_
      refine nil ?_
      show Code.wp _ _ _ _ _
      have hfin : checkA t = (2, 0, 3) := by unfold checkA; rw [if_neg (by rw [h14]; decide), if_pos c18]
      refine wp_ret (thenR ?_)
      exact retV (res3 rfl (fstI hfin) (thd1I hfin) (thd2I hfin)) hS.ext
    ·
      simp only [Bool.and_eq_true, Bool.or_eq_true, Bool.and_eq_false_iff, Bool.or_eq_false_iff, decide_eq_true_eq, decide_eq_false_iff_not, Bool.not_eq_true, Bool.not_eq_false, Bool.not_not, Bool.not_eq_eq_eq_not, Bool.not_true, Bool.not_false, Bool.false_eq_true, Bool.true_eq_false, ne_eq, Decidable.not_not, not_false_eq_true, not_true_eq_false] at c18
      refine skip ?_
      show Code.wp _ _ _ _ _
      refine seq ?_
      refine seq ?_
      refine region ?_
      refine sv (yAsg rfl) ?_
      refine nil ?_
      show Code.wp _ _ _ _ _
      refine block ?_
      refine loop (fun f w zz => ∃ (k : Nat), f 1 = .pointer (some ⟨b1, 0, none⟩) ∧ f 5 = .int .i64 (k : Int) ∧ StX [] w0 w [blk b1 [.int .i64 t.polders, .slice a1 t.chans.length cap1, .slice a2 t.towns.length cap2, .slice a3 t.floods.length cap3] 26] ∧ (k ≤ t.chans.length) ∧ (namedR (·.name) chanE t.chans [] 0 = namedR (·.name) chanE (t.chans.drop k) ((t.chans.take k).map (·.name)) k) ∧ zz = t.chans.length - k) _ ⟨_, rfl, 0, rfl, rfl, hS, (Nat.zero_le _), (rfl), rfl⟩ ?_
      clear hS
      rintro f w _ ⟨k, h1, h5, hS, hk, hI, rfl⟩
      refine seq ?_
      refine seq ?_
      refine region ?_
      refine sv (yMove h5) ?_
      refine sv (fa26_1 h1) ?_
      refine sv (yLdB rfl Tryz.isAgg22 (hS.at _) rfl) ?_
      refine sv (yLen rfl Tryz.underlying22) ?_
      refine sv (yLss rfl rfl) ?_
      refine nil ?_
      show Code.wp _ _ _ _ _
      refine cond rfl (fun c23 => ?_) (fun c23 => ?_)
      ·
        simp only [Bool.and_eq_true, Bool.or_eq_true, Bool.and_eq_false_iff, Bool.or_eq_false_iff, decide_eq_true_eq, decide_eq_false_iff_not, Bool.not_eq_true, Bool.not_eq_false, Bool.not_not, Bool.not_eq_eq_eq_not, Bool.not_true, Bool.not_false, Bool.false_eq_true, Bool.true_eq_false, ne_eq, Decidable.not_not, not_false_eq_true, not_true_eq_false] at c23
        refine skip ?_
        show Code.wp _ _ _ _ _
        refine seq ?_
        refine block ?_
        refine seq ?_
        refine region ?_
        obtain ⟨x, hx, hd⟩ := drop_of (l := t.chans) (k := k) (by omega)
        refine sv (yLdBA h1 Tryz.isAgg26 Tryz.sizeOf26 (hS.at _) rfl rfl) ?_
        refine sv (yMove h5) ?_
        refine scall Tryz.call67 (.cons rfl (.cons rfl .nil)) (c_rchan (h.ext hS.ext) hx) ?_
        rintro _ w ⟨rfl, hE⟩; replace hS := hS.step hE; clear hE
        refine sv (yAsg rfl) ?_
        refine nil ?_
        show Code.wp _ _ _ _ _
        refine seq ?_
        refine region ?_
        refine sv (yMove rfl) ?_
        refine sv (yNeq rfl rfl) ?_
        refine nil ?_
        show Code.wp _ _ _ _ _
        refine cond rfl (fun c30 => ?_) (fun c30 => ?_)
        ·
          simp only [Bool.and_eq_true, Bool.or_eq_true, Bool.and_eq_false_iff, Bool.or_eq_false_iff, decide_eq_true_eq, decide_eq_false_iff_not, Bool.not_eq_true, Bool.not_eq_false, Bool.not_not, Bool.not_eq_eq_eq_not, Bool.not_true, Bool.not_false, Bool.false_eq_true, Bool.true_eq_false, ne_eq, Decidable.not_not, not_false_eq_true, not_true_eq_false] at c30
          refine seq ?_
          refine region ?_
          refine sv (yMove h5) ?_
          refine sv (yMove rfl) ?_
          refine sv (yAsg rfl) ?_
          refine sv (yAsg rfl) ?_
          refine sv (yAsg rfl) ?_
          refine nil ?_
          show Code.wp _ _ _ _ _
          have hNE : namedR (·.name) chanE t.chans [] 0 = ((k : Int), errR (·.name) chanE t.chans k x) := hI.trans (namedR_hit hd c30)
          have hfin : checkA t = (2, (k : Int), errR (·.name) chanE t.chans k x) := by unfold checkA; rw [if_neg (by rw [h14]; decide), if_neg c18, if_pos (by rw [hNE]; exact c30), hNE]
          refine wp_ret (blockR (thenR (thenR (blockR (thenR ?_)))))
          exact retV (res3 rfl (fstI hfin) (thd1I hfin) (thd2I hfin)) hS.ext
        ·
          simp only [Bool.and_eq_true, Bool.or_eq_true, Bool.and_eq_false_iff, Bool.or_eq_false_iff, decide_eq_true_eq, decide_eq_false_iff_not, Bool.not_eq_true, Bool.not_eq_false, Bool.not_not, Bool.not_eq_eq_eq_not, Bool.not_true, Bool.not_false, Bool.false_eq_true, Bool.true_eq_false, ne_eq, Decidable.not_not, not_false_eq_true, not_true_eq_false] at c30
          refine skip ?_
          show Code.wp _ _ _ _ _
          refine region ?_
          refine sv (yMove h5) ?_
          refine sv (yAdd rfl rfl ⟨by omega, by omega⟩) ?_
          refine sv (yAsg rfl) ?_
          refine nil ?_
          exact ⟨_, _, rfl, ⟨k + 1, h1, rfl, hS, (by omega), (by rw [hI]; exact namedR_step hx hd c30), rfl⟩, by omega⟩
      ·
        simp only [Bool.and_eq_true, Bool.or_eq_true, Bool.and_eq_false_iff, Bool.or_eq_false_iff, decide_eq_true_eq, decide_eq_false_iff_not, Bool.not_eq_true, Bool.not_eq_false, Bool.not_not, Bool.not_eq_eq_eq_not, Bool.not_true, Bool.not_false, Bool.false_eq_true, Bool.true_eq_false, ne_eq, Decidable.not_not, not_false_eq_true, not_true_eq_false] at c23
        have hc0 : (namedR (·.name) chanE t.chans [] 0).2 = 0 := by rw [hI, namedR_end (by omega)]
        refine exit ?_
        show Code.wp _ _ _ _ _
        refine seq ?_
        refine seq ?_
        refine region ?_
        refine sv (fa26_2 h1) ?_
        refine sv (yLdB rfl Tryz.isAgg23 (hS.at _) rfl) ?_
        refine sv (yLen rfl Tryz.underlying23) ?_
        refine sv (yGtr rfl rfl) ?_
        refine nil ?_
        show Code.wp _ _ _ _ _
        refine cond rfl (fun c36 => ?_) (fun c36 => ?_)
        ·
          simp only [Bool.and_eq_true, Bool.or_eq_true, Bool.and_eq_false_iff, Bool.or_eq_false_iff, decide_eq_true_eq, decide_eq_false_iff_not, Bool.not_eq_true, Bool.not_eq_false, Bool.not_not, Bool.not_eq_eq_eq_not, Bool.not_true, Bool.not_false, Bool.false_eq_true, Bool.true_eq_false, ne_eq, Decidable.not_not, not_false_eq_true, not_true_eq_false] at c36
          refine seq ?_
          refine region ?_
          refine sv (yAsg rfl) ?_
          refine sv (yAsg rfl) ?_
          refine sv (yAsg rfl) ?_
          refine nil ?_
          show Code.wp _ _ _ _ _
          have hfin : checkA t = (3, 0, 3) := by unfold checkA; rw [if_neg (by rw [h14]; decide), if_neg c18, if_neg (fun h => h hc0), if_pos c36]
          refine wp_ret (thenR ?_)
          exact retV (res3 rfl (fstI hfin) (thd1I hfin) (thd2I hfin)) hS.ext
        ·
          simp only [Bool.and_eq_true, Bool.or_eq_true, Bool.and_eq_false_iff, Bool.or_eq_false_iff, decide_eq_true_eq, decide_eq_false_iff_not, Bool.not_eq_true, Bool.not_eq_false, Bool.not_not, Bool.not_eq_eq_eq_not, Bool.not_true, Bool.not_false, Bool.false_eq_true, Bool.true_eq_false, ne_eq, Decidable.not_not, not_false_eq_true, not_true_eq_false] at c36
          refine skip ?_
          show Code.wp _ _ _ _ _
          refine seq ?_
          refine seq ?_
          refine region ?_
          refine sv (yAsg rfl) ?_
          refine nil ?_
          show Code.wp _ _ _ _ _
          refine block ?_
          refine loop (fun f w zz => ∃ (k : Nat), f 1 = .pointer (some ⟨b1, 0, none⟩) ∧ f 7 = .int .i64 (k : Int) ∧ StX [] w0 w [blk b1 [.int .i64 t.polders, .slice a1 t.chans.length cap1, .slice a2 t.towns.length cap2, .slice a3 t.floods.length cap3] 26] ∧ (k ≤ t.towns.length) ∧ (namedR (·.name) (townE t.polders t.chans.length) t.towns [] 0 = namedR (·.name) (townE t.polders t.chans.length) (t.towns.drop k) ((t.towns.take k).map (·.name)) k) ∧ zz = t.towns.length - k) _ ⟨_, rfl, 0, h1, rfl, hS, (Nat.zero_le _), (rfl), rfl⟩ ?_
          clear hS
          rintro f w _ ⟨k, h1, h7, hS, hk, hI, rfl⟩
          refine seq ?_
          refine seq ?_
          refine region ?_
          refine sv (yMove h7) ?_
          refine sv (fa26_2 h1) ?_
          refine sv (yLdB rfl Tryz.isAgg23 (hS.at _) rfl) ?_
          refine sv (yLen rfl Tryz.underlying23) ?_
          refine sv (yLss rfl rfl) ?_
          refine nil ?_
          show Code.wp _ _ _ _ _
          refine cond rfl (fun c41 => ?_) (fun c41 => ?_)
          ·
            simp only [Bool.and_eq_true, Bool.or_eq_true, Bool.and_eq_false_iff, Bool.or_eq_false_iff, decide_eq_true_eq, decide_eq_false_iff_not, Bool.not_eq_true, Bool.not_eq_false, Bool.not_not, Bool.not_eq_eq_eq_not, Bool.not_true, Bool.not_false, Bool.false_eq_true, Bool.true_eq_false, ne_eq, Decidable.not_not, not_false_eq_true, not_true_eq_false] at c41
            refine skip ?_
            show Code.wp _ _ _ _ _
            refine seq ?_
            refine block ?_
            refine seq ?_
            refine region ?_
            obtain ⟨x, hx, hd⟩ := drop_of (l := t.towns) (k := k) (by omega)
            refine sv (yLdBA h1 Tryz.isAgg26 Tryz.sizeOf26 (hS.at _) rfl rfl) ?_
            refine sv (yMove h7) ?_
            refine scall Tryz.call68 (.cons rfl (.cons rfl .nil)) (c_rtown (h.ext hS.ext) hx hp) ?_
            rintro _ w ⟨rfl, hE⟩; replace hS := hS.step hE; clear hE
            refine sv (yAsg rfl) ?_
            refine nil ?_
            show Code.wp _ _ _ _ _
            refine seq ?_
            refine region ?_
            refine sv (yMove rfl) ?_
            refine sv (yNeq rfl rfl) ?_
            refine nil ?_
            show Code.wp _ _ _ _ _
            refine cond rfl (fun c48 => ?_) (fun c48 => ?_)
            ·
              simp only [Bool.and_eq_true, Bool.or_eq_true, Bool.and_eq_false_iff, Bool.or_eq_false_iff, decide_eq_true_eq, decide_eq_false_iff_not, Bool.not_eq_true, Bool.not_eq_false, Bool.not_not, Bool.not_eq_eq_eq_not, Bool.not_true, Bool.not_false, Bool.false_eq_true, Bool.true_eq_false, ne_eq, Decidable.not_not, not_false_eq_true, not_true_eq_false] at c48
              refine seq ?_
              refine region ?_
              refine sv (yMove h7) ?_
              refine sv (yMove rfl) ?_
              refine sv (yAsg rfl) ?_
              refine sv (yAsg rfl) ?_
              refine sv (yAsg rfl) ?_
              refine nil ?_
              show Code.wp _ _ _ _ _
              have hNE : namedR (·.name) (townE t.polders t.chans.length) t.towns [] 0 = ((k : Int), errR (·.name) (townE t.polders t.chans.length) t.towns k x) := hI.trans (namedR_hit hd c48)
              have hfin : checkA t = (3, (k : Int), errR (·.name) (townE t.polders t.chans.length) t.towns k x) := by unfold checkA; rw [if_neg (by rw [h14]; decide), if_neg c18, if_neg (fun h => h hc0), if_neg c36, if_pos (by rw [hNE]; exact c48), hNE]
              refine wp_ret (blockR (thenR (thenR (blockR (thenR ?_)))))
              exact retV (res3 rfl (fstI hfin) (thd1I hfin) (thd2I hfin)) hS.ext
            ·
              simp only [Bool.and_eq_true, Bool.or_eq_true, Bool.and_eq_false_iff, Bool.or_eq_false_iff, decide_eq_true_eq, decide_eq_false_iff_not, Bool.not_eq_true, Bool.not_eq_false, Bool.not_not, Bool.not_eq_eq_eq_not, Bool.not_true, Bool.not_false, Bool.false_eq_true, Bool.true_eq_false, ne_eq, Decidable.not_not, not_false_eq_true, not_true_eq_false] at c48
              refine skip ?_
              show Code.wp _ _ _ _ _
              refine region ?_
              refine sv (yMove h7) ?_
              refine sv (yAdd rfl rfl ⟨by omega, by omega⟩) ?_
              refine sv (yAsg rfl) ?_
              refine nil ?_
              exact ⟨_, _, rfl, ⟨k + 1, h1, rfl, hS, (by omega), (by rw [hI]; exact namedR_step hx hd c48), rfl⟩, by omega⟩
          ·
            simp only [Bool.and_eq_true, Bool.or_eq_true, Bool.and_eq_false_iff, Bool.or_eq_false_iff, decide_eq_true_eq, decide_eq_false_iff_not, Bool.not_eq_true, Bool.not_eq_false, Bool.not_not, Bool.not_eq_eq_eq_not, Bool.not_true, Bool.not_false, Bool.false_eq_true, Bool.true_eq_false, ne_eq, Decidable.not_not, not_false_eq_true, not_true_eq_false] at c41
            have ht0 : (namedR (·.name) (townE t.polders t.chans.length) t.towns [] 0).2 = 0 := by rw [hI, namedR_end (by omega)]
            refine exit ?_
            show Code.wp _ _ _ _ _
            refine seq ?_
            refine seq ?_
            refine region ?_
            refine sv (fa26_3 h1) ?_
            refine sv (yLdB rfl Tryz.isAgg24 (hS.at _) rfl) ?_
            refine sv (yLen rfl Tryz.underlying24) ?_
            refine scall Tryz.call66 (.cons rfl (.cons rfl (.cons rfl .nil))) c_rin ?_
            rintro _ w ⟨rfl, hE⟩; replace hS := hS.step hE; clear hE
            refine sv (yNot rfl) ?_
            refine nil ?_
            show Code.wp _ _ _ _ _
            refine cond rfl (fun c55 => ?_) (fun c55 => ?_)
            ·
              have h55 : outB t.floods.length 1 8 = true := by rw [← inB_not]; exact c55
              refine seq ?_
              refine region ?_
              refine sv (yAsg rfl) ?_
              refine sv (yAsg rfl) ?_
              refine sv (yAsg rfl) ?_
              refine nil ?_
              show Code.wp _ _ _ _ _
              have hfin : checkA t = (4, 0, 3) := by unfold checkA; rw [if_neg (by rw [h14]; decide), if_neg c18, if_neg (fun h => h hc0), if_neg c36, if_neg (fun h => h ht0), if_pos h55]
              refine wp_ret (thenR ?_)
              exact retV (res3 rfl (fstI hfin) (thd1I hfin) (thd2I hfin)) hS.ext
            ·
              have h55 : outB t.floods.length 1 8 = false := by rw [← inB_not]; exact c55
              refine skip ?_
              show Code.wp _ _ _ _ _
              refine seq ?_
              refine seq ?_
              refine region ?_
              refine sv (yAsg rfl) ?_
              refine nil ?_
              show Code.wp _ _ _ _ _
              refine block ?_
              refine loop (fun f w zz => ∃ (k : Nat), f 1 = .pointer (some ⟨b1, 0, none⟩) ∧ f 9 = .int .i64 (k : Int) ∧ StX [] w0 w [blk b1 [.int .i64 t.polders, .slice a1 t.chans.length cap1, .slice a2 t.towns.length cap2, .slice a3 t.floods.length cap3] 26] ∧ (k ≤ t.floods.length) ∧ (firstR (floodE t.polders) t.floods 0 = firstR (floodE t.polders) (t.floods.drop k) k) ∧ zz = t.floods.length - k) _ ⟨_, rfl, 0, h1, rfl, hS, (Nat.zero_le _), (rfl), rfl⟩ ?_
              clear hS
              rintro f w _ ⟨k, h1, h9, hS, hk, hI, rfl⟩
              refine seq ?_
              refine seq ?_
              refine region ?_
              refine sv (yMove h9) ?_
              refine sv (fa26_3 h1) ?_
              refine sv (yLdB rfl Tryz.isAgg24 (hS.at _) rfl) ?_
              refine sv (yLen rfl Tryz.underlying24) ?_
              refine sv (yLss rfl rfl) ?_
              refine nil ?_
              show Code.wp _ _ _ _ _
              refine cond rfl (fun c60 => ?_) (fun c60 => ?_)
              ·
                simp only [Bool.and_eq_true, Bool.or_eq_true, Bool.and_eq_false_iff, Bool.or_eq_false_iff, decide_eq_true_eq, decide_eq_false_iff_not, Bool.not_eq_true, Bool.not_eq_false, Bool.not_not, Bool.not_eq_eq_eq_not, Bool.not_true, Bool.not_false, Bool.false_eq_true, Bool.true_eq_false, ne_eq, Decidable.not_not, not_false_eq_true, not_true_eq_false] at c60
                obtain ⟨l, hxl, hdl⟩ := drop_of (l := t.floods) (k := k) (by omega)
                obtain ⟨bl, ol, csl, hal, hlenl, hcsl, hRl⟩ := hel3 (k) (by omega)
                obtain rfl : l = t.floods[k] := (List.getElem?_eq_some_iff.1 hxl).2.symm
                generalize t.floods[k] = l at hxl hdl hRl
                have hR1 := hRl
                obtain ⟨lv, rfl, hsl⟩ := id hR1
                obtain ⟨al, cl2, rfl, hlcap, hlmx, hlel⟩ := id hsl
                refine skip ?_
                show Code.wp _ _ _ _ _
                refine seq ?_
                refine block ?_
                refine seq ?_
                refine seq ?_
                refine region_draw mixed (by kernel_rfl) hS ?_
                refine qv (fun w hS => (fa26_3 h1)) ?_
                refine qv (fun w hS => (yLdB rfl Tryz.isAgg24 (hS.at _) rfl)) ?_
                refine qv (fun w hS => (yMove h9)) ?_
                refine qv (fun w hS => (yIxa rfl hal rfl Tryz.runUnderlying24 Tryz.sizeOf34 (by omega) (by omega))) ?_
                refine qv (fun w hS => (yLd rfl Tryz.isAgg34 ((hcsl.ext hS.ext).one))) ?_
                refine qv (fun w hS => (yLen rfl Tryz.underlying34)) ?_
                refine qv (fun w hS => (fa26_0 h1)) ?_
                refine qv (fun w hS => (yLdB rfl Tryz.isAgg3 (hS.at _) rfl)) ?_
                refine qv (fun w hS => (yNeq rfl rfl)) ?_
                clear hS; refine qnil (fun w hS => ?_)
                show Code.wp _ _ _ _ _
                refine cond rfl (fun c71 => ?_) (fun c71 => ?_)
                ·
                  simp only [Bool.and_eq_true, Bool.or_eq_true, Bool.and_eq_false_iff, Bool.or_eq_false_iff, decide_eq_true_eq, decide_eq_false_iff_not, Bool.not_eq_true, Bool.not_eq_false, Bool.not_not, Bool.not_eq_eq_eq_not, Bool.not_true, Bool.not_false, Bool.false_eq_true, Bool.true_eq_false, ne_eq, Decidable.not_not, not_false_eq_true, not_true_eq_false] at c71
                  refine seq ?_
                  refine region ?_
                  refine sv (yMove h9) ?_
                  refine sv (yAsg rfl) ?_
                  refine sv (yAsg rfl) ?_
                  refine sv (yAsg rfl) ?_
                  refine nil ?_
                  show Code.wp _ _ _ _ _
                  have hfe : floodE t.polders l = 2 := by unfold floodE; rw [if_pos c71]
                  have hFR : firstR (floodE t.polders) t.floods 0 = ((k : Int), 2) := by rw [hI, hdl, firstR, if_pos (by rw [hfe]; decide), hfe]
                  have hfin : checkA t = (4, (k : Int), 2) := by unfold checkA; rw [if_neg (by rw [h14]; decide), if_neg c18, if_neg (fun h => h hc0), if_neg c36, if_neg (fun h => h ht0), if_neg (by rw [h55]; decide), if_pos (by rw [hFR]; show (2 : Int) ≠ 0; decide), hFR]
                  refine wp_ret (thenR (blockR (thenR (thenR (blockR (thenR ?_))))))
                  exact retV (res3 rfl (fstI hfin) (thd1I hfin) (thd2I hfin)) hS.ext
                ·
                  simp only [Bool.and_eq_true, Bool.or_eq_true, Bool.and_eq_false_iff, Bool.or_eq_false_iff, decide_eq_true_eq, decide_eq_false_iff_not, Bool.not_eq_true, Bool.not_eq_false, Bool.not_not, Bool.not_eq_eq_eq_not, Bool.not_true, Bool.not_false, Bool.false_eq_true, Bool.true_eq_false, ne_eq, Decidable.not_not, not_false_eq_true, not_true_eq_false] at c71
                  refine skip ?_
                  show Code.wp _ _ _ _ _
                  refine seq ?_
                  refine region ?_
                  refine sv (yAsg rfl) ?_
                  refine nil ?_
                  show Code.wp _ _ _ _ _
                  refine block ?_
                  refine loop (fun f w zz => ∃ (j : Nat), f 1 = .pointer (some ⟨b1, 0, none⟩) ∧ f 9 = .int .i64 (k : Int) ∧ f 10 = .int .i64 (j : Int) ∧ StX [] w0 w [blk b1 [.int .i64 t.polders, .slice a1 t.chans.length cap1, .slice a2 t.towns.length cap2, .slice a3 t.floods.length cap3] 26] ∧ (j ≤ l.length) ∧ (∀ q, q < j → ∀ z, l[q]? = some z → outB z (-1) 200000 = false) ∧ zz = l.length - j) _ ⟨_, rfl, 0, h1, h9, rfl, hS, (Nat.zero_le _), (fun q hq => absurd hq (Nat.not_lt_zero q)), rfl⟩ ?_
                  clear hS
                  rintro f w _ ⟨j, h1, h9, h10, hS, hj, hM, rfl⟩
                  refine seq ?_
                  refine seq ?_
                  refine region ?_
                  refine sv (yMove h10) ?_
                  refine sv (fa26_3 h1) ?_
                  refine sv (yLdB rfl Tryz.isAgg24 (hS.at _) rfl) ?_
                  refine sv (yMove h9) ?_
                  refine sv (yIxa rfl hal rfl Tryz.runUnderlying24 Tryz.sizeOf34 (by omega) (by omega)) ?_
                  refine sv (yLd rfl Tryz.isAgg34 ((hcsl.ext hS.ext).one)) ?_
                  refine sv (yLen rfl Tryz.underlying34) ?_
                  refine sv (yLss rfl rfl) ?_
                  refine nil ?_
                  show Code.wp _ _ _ _ _
                  refine cond rfl (fun c80 => ?_) (fun c80 => ?_)
                  ·
                    simp only [Bool.and_eq_true, Bool.or_eq_true, Bool.and_eq_false_iff, Bool.or_eq_false_iff, decide_eq_true_eq, decide_eq_false_iff_not, Bool.not_eq_true, Bool.not_eq_false, Bool.not_not, Bool.not_eq_eq_eq_not, Bool.not_true, Bool.not_false, Bool.false_eq_true, Bool.true_eq_false, ne_eq, Decidable.not_not, not_false_eq_true, not_true_eq_false] at c80
                    obtain ⟨z, hxz, hdz⟩ := drop_of (l := l) (k := j) (by omega)
                    obtain ⟨bz, oz, csz, haz, hlenz, hcsz, hRz⟩ := hlel (j) (by omega)
                    obtain rfl : z = l[j] := (List.getElem?_eq_some_iff.1 hxz).2.symm
                    generalize l[j] = z at hxz hdz hRz
                    obtain ⟨rfl, hzi⟩ := hRz
                    refine skip ?_
                    show Code.wp _ _ _ _ _
                    refine seq ?_
                    refine block ?_
                    refine seq ?_
                    refine region ?_
                    refine sv (fa26_3 h1) ?_
                    refine sv (yLdB rfl Tryz.isAgg24 (hS.at _) rfl) ?_
                    refine sv (yMove h9) ?_
                    refine sv (yIxa rfl hal rfl Tryz.runUnderlying24 Tryz.sizeOf34 (by omega) (by omega)) ?_
                    refine sv (yLd rfl Tryz.isAgg34 ((hcsl.ext hS.ext).one)) ?_
                    refine sv (yMove h10) ?_
                    refine sv (yIxa rfl haz rfl Tryz.runUnderlying34 Tryz.sizeOf3 (by omega) (by omega)) ?_
                    refine sv (yLd rfl Tryz.isAgg3 ((hcsz.ext hS.ext).one)) ?_
                    refine scall Tryz.call66 (.cons rfl (.cons rfl (.cons rfl .nil))) c_rin ?_
                    rintro _ w ⟨rfl, hE⟩; replace hS := hS.step hE; clear hE
                    refine sv (yNot rfl) ?_
                    refine nil ?_
                    show Code.wp _ _ _ _ _
                    refine cond rfl (fun c92 => ?_) (fun c92 => ?_)
                    ·
                      have h92 : outB z (-1) 200000 = true := by rw [← inB_not]; exact c92
                      refine seq ?_
                      refine region ?_
                      refine sv (yMove h9) ?_
                      refine sv (yAsg rfl) ?_
                      refine sv (yAsg rfl) ?_
                      refine sv (yAsg rfl) ?_
                      refine nil ?_
                      show Code.wp _ _ _ _ _
                      have hfe : floodE t.polders l = 7 := by unfold floodE; rw [if_neg (fun h => h c71), if_pos (List.any_eq_true.2 ⟨z, List.mem_of_getElem? hxz, h92⟩)]
                      have hFR : firstR (floodE t.polders) t.floods 0 = ((k : Int), 7) := by rw [hI, hdl, firstR, if_pos (by rw [hfe]; decide), hfe]
                      have hfin : checkA t = (4, (k : Int), 7) := by unfold checkA; rw [if_neg (by rw [h14]; decide), if_neg c18, if_neg (fun h => h hc0), if_neg c36, if_neg (fun h => h ht0), if_neg (by rw [h55]; decide), if_pos (by rw [hFR]; show (7 : Int) ≠ 0; decide), hFR]
                      refine wp_ret (blockR (thenR (thenR (blockR (blockR (thenR (thenR (blockR (thenR ?_)))))))))
                      exact retV (res3 rfl (fstI hfin) (thd1I hfin) (thd2I hfin)) hS.ext
                    ·
                      have h92 : outB z (-1) 200000 = false := by rw [← inB_not]; exact c92
                      refine skip ?_
                      show Code.wp _ _ _ _ _
                      refine region ?_
                      refine sv (yMove h10) ?_
                      refine sv (yAdd rfl rfl ⟨by omega, by omega⟩) ?_
                      refine sv (yAsg rfl) ?_
                      refine nil ?_
                      exact ⟨_, _, rfl, ⟨j + 1, h1, h9, rfl, hS, (by omega), (snoc hM (fun v hv => by cases Option.some.inj (hxz.symm.trans hv); exact h92)), rfl⟩, by omega⟩
                  ·
                    simp only [Bool.and_eq_true, Bool.or_eq_true, Bool.and_eq_false_iff, Bool.or_eq_false_iff, decide_eq_true_eq, decide_eq_false_iff_not, Bool.not_eq_true, Bool.not_eq_false, Bool.not_not, Bool.not_eq_eq_eq_not, Bool.not_true, Bool.not_false, Bool.false_eq_true, Bool.true_eq_false, ne_eq, Decidable.not_not, not_false_eq_true, not_true_eq_false] at c80
                    refine exit ?_
                    show Code.wp _ _ _ _ _
                    refine region ?_
                    refine sv (yMove h9) ?_
                    refine sv (yAdd rfl rfl ⟨by omega, by omega⟩) ?_
                    refine sv (yAsg rfl) ?_
                    refine nil ?_
                    obtain rfl : j = l.length := by omega
                    have hfe : floodE t.polders l = 0 := by unfold floodE; rw [if_neg (fun h => h c71), if_neg (fun hh => by obtain ⟨z, hz, hb⟩ := List.any_eq_true.1 hh; obtain ⟨q, hq, rfl⟩ := List.mem_iff_getElem.1 hz; rw [hM q hq _ (List.getElem?_eq_getElem hq)] at hb; cases hb)]
                    exact ⟨_, _, rfl, ⟨k + 1, h1, rfl, hS, (by omega), (by rw [hI, hdl, firstR, if_neg (fun h => h hfe)]; rfl), rfl⟩, by omega⟩
              ·
                simp only [Bool.and_eq_true, Bool.or_eq_true, Bool.and_eq_false_iff, Bool.or_eq_false_iff, decide_eq_true_eq, decide_eq_false_iff_not, Bool.not_eq_true, Bool.not_eq_false, Bool.not_not, Bool.not_eq_eq_eq_not, Bool.not_true, Bool.not_false, Bool.false_eq_true, Bool.true_eq_false, ne_eq, Decidable.not_not, not_false_eq_true, not_true_eq_false] at c60
                obtain rfl : k = t.floods.length := by omega
                have hFR : firstR (floodE t.polders) t.floods 0 = (0, 0) := by rw [hI, List.drop_length]; rfl
                refine exit ?_
                show Code.wp _ _ _ _ _
                refine seq ?_
                refine region ?_
                refine sv (yAsg rfl) ?_
                refine sv (yAsg rfl) ?_
                refine sv (yAsg rfl) ?_
                refine nil ?_
                show Code.wp _ _ _ _ _
                have hfin : checkA t = (0, 0, 0) := by unfold checkA; rw [if_neg (by rw [h14]; decide), if_neg c18, if_neg (fun h => h hc0), if_neg c36, if_neg (fun h => h ht0), if_neg (by rw [h55]; decide), if_neg (fun h => h (by rw [hFR]))]
                refine wp_ret ?_
                exact retV (res3 rfl (fstI hfin) (thd1I hfin) (thd2I hfin)) hS.ext
end Go.Proofs.YtmoilbakmlekbaaGreatDoor

/- part LibB1 -/
namespace Bx
open Go Go.RowKit
def fromA (a : Option Addr) (cap i k : Nat) : Option Addr := if cap = i then a else a.map (·.add (i * k))
section
variable {P : Program} {ρ : Operand → Value} {w : World} {ty : TypeId}
theorem yFromA {T E : TypeId} {x xi : Operand} {a : Option Addr} {cap i k m : Nat} {kd : IntKind} (hx : ρ x = .slice a m cap) (hi : ρ xi = .int kd (i : Int)) (hu : P.underlying T = some (.slice E)) (hs : ∀ w, (Go.sizeOf E).run P w = .ok k w) (hm : i ≤ m) :
    Y P ρ (.slice T x (some xi) none none) ty w (.slice (fromA a cap i k) (m - i) (cap - i)) w := by
  have hb : (0 : Int) ≤ (i : Int) ∧ (i : Int) ≤ (m : Int) := ⟨by omega, by omega⟩
  simp only [Y, xop, execOp, Option.map_some, Option.map_none, hx, hi, Instr.sliceAt, run_underlying hu, Sem.run_bind, Result.andThen_ok, Instr.slice, Instr.sliceBounds, Instr.sliceBound, asIntOf, Sem.run_pure, Sem.run_ite, hb, and_self, if_true, hs, Int.toNat_natCast, fromA]
end
theorem Sl.drop {α : Type} {w : World} {k : Nat} {R : World → List Value → α → Prop} {a : Option Addr} {n cap i : Nat} {l : List α} (h : Sl w k R (.slice a n cap) l) (hi : i ≤ n) : Sl w k R (.slice (fromA a cap i k) (n - i) (cap - i)) (l.drop i) := by
  obtain ⟨a', cap', hv, h1, h2, h3⟩ := h
  simp only [Value.slice.injEq] at hv
  obtain ⟨rfl, rfl, rfl⟩ := hv
  refine ⟨_, _, by rw [List.length_drop], by rw [List.length_drop]; omega, by omega, fun j hj => ?_⟩
  rw [List.length_drop] at hj
  obtain ⟨b, o, cs, ha, hlc, hc, hr⟩ := h3 (i + j) (by omega)
  refine ⟨b, o + i * k, cs, ?_, hlc, ?_, by rw [List.getElem_drop]; exact hr⟩
  · unfold fromA
    rw [if_neg (by omega), ha, Option.map_some, addr_add]
  · rw [show o + i * k + j * k = o + (i + j) * k by rw [Nat.add_mul]; omega]; exact hc
theorem Sl.fit {α : Type} {w : World} {k : Nat} {R : World → List Value → α → Prop} {a : Option Addr} {n cap : Nat} {l : List α} (h : Sl w k R (.slice a n cap) l) : n ≤ cap := by
  obtain ⟨a', cap', hv, h1, -⟩ := h
  simp only [Value.slice.injEq] at hv
  omega
/-- What a slice holds, as it is written out, where each part has one writing. -/
theorem encs_news {α : Type} {enc : α → List Value} {k : Nat} {R : World → List Value → α → Prop} (hR : ∀ w cs x, R w cs x → cs = enc x) {w : World} {a : Option Addr} {cap : Nat} {l : List α} (h : Sl w k R (.slice a l.length cap) l) : 0 < l.length → ∃ b o, a = some ⟨b, o, none⟩ ∧ Cells w b o (l.flatMap enc) := by
  obtain ⟨css, hr, hc⟩ := sl_news h
  have e : ∀ {css : List (List Value)} {l : List α}, Bx.Rows w k R css l → css.flatten = l.flatMap enc := by
    intro css
    induction css with
    | nil => intro l h; cases l with
      | nil => rfl
      | cons x l => exact h.elim
    | cons c css ih => intro l h; cases l with
      | nil => exact h.elim
      | cons x l =>
        obtain ⟨_, h2, h3⟩ := h
        rw [List.flatten_cons, List.flatMap_cons, hR _ _ _ h2, ih h3]
  rw [← e hr]; exact hc
end Bx

/- part A25 -/
namespace Bx
open Go Go.RowKit
theorem arrS_skip {x : Town} {s : Span × Int} {l : List Int} (h : fld x l < 0) : arrStep x s l = s := if_pos h
theorem arrS_zero {x : Town} {s : Span × Int} {l : List Int} (h : ¬ fld x l < 0) (h0 : s.2 = 0) : arrStep x s l = (⟨min (fld x l + x.travel) (fld x l + x.travel), max (fld x l + x.travel) (fld x l + x.travel)⟩, s.2 + 1) := by
  unfold fld at *
  unfold arrStep
  rw [if_neg h, if_pos h0, h0, Int.min_self, Int.max_self]; rfl
theorem arrS_more {x : Town} {s : Span × Int} {l : List Int} (h : ¬ fld x l < 0) (h0 : ¬ s.2 = 0) : arrStep x s l = (⟨min s.1.lo (fld x l + x.travel), max s.1.hi (fld x l + x.travel)⟩, s.2 + 1) := by
  unfold fld at *
  unfold arrStep
  rw [if_neg h, if_neg h0]
theorem arrP_bd {t : Task} (ht : TaskOk t) {x : Town} (hx : TownOk t x) (k : Nat) : ((0 ≤ (arrP t x k).1.lo ∧ (arrP t x k).1.lo ≤ 200500) ∧ (0 ≤ (arrP t x k).1.hi ∧ (arrP t x k).1.hi ≤ 200500)) ∧ 0 ≤ (arrP t x k).2 ∧ (arrP t x k).2 ≤ 8 := by
  have := fold_bd ht hx k
  simp only at this
  unfold arrP
  omega
theorem fld_at {t : Task} (hok : TaskOk t) {i : Int} (hi : 0 ≤ i ∧ i < t.towns.length) {l : List Int} (hl : l ∈ t.floods) : l[(twn t i).polder.toNat]? = some (fld (twn t i) l) ∧ -1 ≤ fld (twn t i) l ∧ fld (twn t i) l ≤ 200000 := by
  have hf := hok.flood l hl
  have hp := (town_ok hok hi).pol
  have hin : (twn t i).polder.toNat < l.length := by omega
  have e : fld (twn t i) l = l[(twn t i).polder.toNat] := by unfold fld; simp [List.getD, hin]
  rw [e]
  exact ⟨List.getElem?_eq_getElem hin, hf.2 _ (List.getElem_mem hin)⟩
end Bx

/- part Aw30 -/
namespace Go.Proofs.YtmoilbakmlekbaaGreatDoor
open Go Bx
/-- barrage/barrageref11.good -/
theorem c_rgood {t : Task} {hv nv fv : Value} {w0 : World} (h : RTask w0 [.int .i64 t.polders, hv, nv, fv] t) : CV Tryz.prog 77 #[.agg [.int .i64 t.polders, hv, nv, fv].toArray] w0 (.int .i64 (checkA t).2.2) := by
  obtain ⟨hv', nv', fv', he0, hpol, hsh, hsn, hsf⟩ := id h
  obtain ⟨rfl, rfl, rfl⟩ : hv' = hv ∧ nv' = nv ∧ fv' = fv := by simpa [eq_comm] using he0
  obtain ⟨a1, cap1, rfl, hcap1, hmx1, hel1⟩ := id hsh
  obtain ⟨a2, cap2, rfl, hcap2, hmx2, hel2⟩ := id hsn
  obtain ⟨a3, cap3, rfl, hcap3, hmx3, hel3⟩ := id hsf
  refine enter Tryz.func77 rfl Tryz.ntmps77 rfl ?_
  have hS := St.start w0
  refine seq ?_
  refine region ?_
  refine sbox hS rfl rfl ?_; clear hS; intro b1 w hS
  refine sv (yAsg rfl) ?_
  refine nil ?_
  show Code.wp _ _ _ _ _
  refine seq ?_
  refine region ?_
  refine sv (yLdBA rfl Tryz.isAgg26 Tryz.sizeOf26 (hS.at _) rfl rfl) ?_
  refine scall Tryz.call22 (.cons rfl .nil) (c_rCheck (h.ext hS.ext)) ?_
  rintro _ w ⟨rfl, hE⟩; replace hS := hS.step hE; clear hE
  refine sv (yMove rfl) ?_
  refine sv (yExt rfl rfl) ?_
  refine sv (yExt rfl rfl) ?_
  refine sv (yExt rfl rfl) ?_
  refine sv (yAsg rfl) ?_
  refine sv (yAsg rfl) ?_
  refine sv (yAsg rfl) ?_
  refine nil ?_
  show Code.wp _ _ _ _ _
  refine seq ?_
  refine region ?_
  refine sv (yMove rfl) ?_
  refine sv (yAsg rfl) ?_
  refine nil ?_
  show Code.wp _ _ _ _ _
  refine wp_ret ?_
  exact retV (res1 rfl rfl) hS.ext
set_option maxHeartbeats 2000000 in
/-- barrage/barrageref11.arrival -/
theorem c_rarr {t : Task} {hv nv fv : Value} {i : Int} {w0 : World} (h : RTask w0 [.int .i64 t.polders, hv, nv, fv] t) (hok : TaskOk t) (hi : 0 ≤ i ∧ i < t.towns.length) : CV Tryz.prog 71 #[.agg [.int .i64 t.polders, hv, nv, fv].toArray, .int .i64 i] w0 (.tuple #[.agg (spanC (arr t i).1).toArray, .int .i64 (arr t i).2]) := by
  obtain ⟨hv', nv', fv', he0, hpol, hsh, hsn, hsf⟩ := id h
  obtain ⟨rfl, rfl, rfl⟩ : hv' = hv ∧ nv' = nv ∧ fv' = fv := by simpa [eq_comm] using he0
  obtain ⟨a1, cap1, rfl, hcap1, hmx1, hel1⟩ := id hsh
  obtain ⟨a2, cap2, rfl, hcap2, hmx2, hel2⟩ := id hsn
  obtain ⟨a3, cap3, rfl, hcap3, hmx3, hel3⟩ := id hsf
  obtain ⟨bt, ot, cst, hat, hlt, hcst, hRt, -⟩ := sl_at hsn (twn_i (t := t) hi)
  obtain ⟨dvt, rfl, -, -, -, -, hslt, -⟩ := hRt
  have hto := town_ok hok hi
  have htp := hto.pol
  have htr := hto.travel
  have htl := hto.lead
  refine enter Tryz.func71 rfl Tryz.ntmps71 rfl ?_
  have hS := St.start w0
  refine seq ?_
  refine region ?_
  refine sbox hS rfl rfl ?_; clear hS; intro b2 w hS
  refine salloc hS Tryz.zeroValue44 rfl ?_; clear hS; intro b4 w hS
  refine sv (yAsg rfl) ?_
  refine nil ?_
  show Code.wp _ _ _ _ _
  refine seq ?_
  refine region ?_
  refine salloc hS Tryz.zeroValue44 rfl ?_; clear hS; intro b6 w hS
  refine nil ?_
  show Code.wp _ _ _ _ _
  refine seq ?_
  refine region ?_
  refine sv (yAsg rfl) ?_
  refine nil ?_
  show Code.wp _ _ _ _ _
  refine seq ?_
  refine seq ?_
  refine region ?_
  refine sv (yAsg rfl) ?_
  refine nil ?_
  show Code.wp _ _ _ _ _
  refine block ?_
  refine loop (fun f w zz => ∃ (k : Nat), f 1 = .int .i64 i ∧ f 2 = .pointer (some ⟨b2, 0, none⟩) ∧ f 4 = .pointer (some ⟨b4, 0, none⟩) ∧ f 6 = .pointer (some ⟨b6, 0, none⟩) ∧ f 7 = .int .i64 (arrP t (twn t i) k).2 ∧ f 8 = .int .i64 (k : Int) ∧ StX [] w0 w [blk b6 (spanC (arrP t (twn t i) k).1) 44, blk b4 [.int .i64 0, .int .i64 0] 44, blk b2 [.int .i64 t.polders, .slice a1 t.chans.length cap1, .slice a2 t.towns.length cap2, .slice a3 t.floods.length cap3] 26] ∧ (k ≤ t.floods.length) ∧ zz = t.floods.length - k) _ ⟨_, rfl, 0, rfl, rfl, rfl, rfl, rfl, rfl, hS, (Nat.zero_le _), rfl⟩ ?_
  clear hS
  rintro f w _ ⟨k, h1, h2, h4, h6, h7, h8, hS, hk, rfl⟩
  refine seq ?_
  refine seq ?_
  refine region ?_
  refine sv (yMove h8) ?_
  refine sv (fa26_3 h2) ?_
  refine sv (yLdB rfl Tryz.isAgg24 (hS.at _) rfl) ?_
  refine sv (yLen rfl Tryz.underlying24) ?_
  refine sv (yLss rfl rfl) ?_
  refine nil ?_
  show Code.wp _ _ _ _ _
  refine cond rfl (fun c14 => ?_) (fun c14 => ?_)
  ·
    simp only [Bool.and_eq_true, Bool.or_eq_true, Bool.and_eq_false_iff, Bool.or_eq_false_iff, decide_eq_true_eq, decide_eq_false_iff_not, Bool.not_eq_true, Bool.not_eq_false, Bool.not_not, Bool.not_eq_eq_eq_not, Bool.not_true, Bool.not_false, Bool.false_eq_true, Bool.true_eq_false, ne_eq, Decidable.not_not, not_false_eq_true, not_true_eq_false] at c14
    obtain ⟨l, hl, -⟩ := drop_of (l := t.floods) (k := k) (by omega)
    obtain ⟨bl, ol, csl, hal, hll, hcsl, hRl, -⟩ := sl_at hsf hl
    obtain ⟨lv, rfl, hsl⟩ := hRl
    obtain ⟨al, cl2, rfl, -⟩ := id hsl
    obtain ⟨hpl, hfb⟩ := fld_at hok hi (List.mem_of_getElem? hl)
    obtain ⟨bp, op, csp, hap, hlp, hcsp, hRp, hpn⟩ := sl_at hsl hpl
    obtain ⟨rfl, -⟩ := hRp
    have hpb := arrP_bd hok hto k
    refine skip ?_
    show Code.wp _ _ _ _ _
    refine seq ?_
    refine block ?_
    refine seq ?_
    refine region_draw mixed (by kernel_rfl) hS ?_
    refine qv (fun w hS => (fa26_3 h2)) ?_
    refine qv (fun w hS => (yLdB rfl Tryz.isAgg24 (hS.at _) rfl)) ?_
    refine qv (fun w hS => (yMove h8)) ?_
    refine qv (fun w hS => (yIxa rfl hal rfl Tryz.runUnderlying24 Tryz.sizeOf34 (by omega) (by omega))) ?_
    refine qv (fun w hS => (yLd rfl Tryz.isAgg34 ((hcsl.ext hS.ext).one))) ?_
    refine qv (fun w hS => (fa26_2 h2)) ?_
    refine qv (fun w hS => (yLdB rfl Tryz.isAgg23 (hS.at _) rfl)) ?_
    refine qv (fun w hS => (yMove h1)) ?_
    refine qv (fun w hS => (yIxa rfl hat rfl Tryz.runUnderlying23 Tryz.sizeOf36 (by omega) (by omega))) ?_
    refine qv (fun w hS => (fa36_1 rfl)) ?_
    refine qv (fun w hS => (yLd rfl Tryz.isAgg3 ((hcst.ext hS.ext).at (j := 1) rfl))) ?_
    refine qv (fun w hS => (yIxa rfl hap rfl Tryz.runUnderlying34 Tryz.sizeOf3 (by omega) (by omega))) ?_
    refine qv (fun w hS => (yLd rfl Tryz.isAgg3 ((hcsp.ext hS.ext).one))) ?_
    refine qv (fun w hS => (yAsg rfl)) ?_
    clear hS; refine qnil (fun w hS => ?_)
    show Code.wp _ _ _ _ _
    refine seq ?_
    refine seq ?_
    refine region ?_
    refine sv (yMove rfl) ?_
    refine sv (yLss rfl rfl) ?_
    refine nil ?_
    show Code.wp _ _ _ _ _
    refine cond rfl (fun c31 => ?_) (fun c31 => ?_)
    ·
      simp only [Bool.and_eq_true, Bool.or_eq_true, Bool.and_eq_false_iff, Bool.or_eq_false_iff, decide_eq_true_eq, decide_eq_false_iff_not, Bool.not_eq_true, Bool.not_eq_false, Bool.not_not, Bool.not_eq_eq_eq_not, Bool.not_true, Bool.not_false, Bool.false_eq_true, Bool.true_eq_false, ne_eq, Decidable.not_not, not_false_eq_true, not_true_eq_false] at c31
      refine exit ?_
      show Code.wp _ _ _ _ _
      refine region ?_
      refine sv (yMove h8) ?_
      refine sv (yAdd rfl rfl ⟨by omega, by omega⟩) ?_
      refine sv (yAsg rfl) ?_
      refine nil ?_
      have e := (arrP_succ (x := twn t i) hl).trans (arrS_skip c31)
      exact ⟨_, _, rfl, ⟨k + 1, h1, h2, h4, h6, (h7.trans (congrArg (fun q : Bx.Span × Int => Value.int .i64 q.2) e).symm), rfl, (by rw [e]; exact hS), (by omega), rfl⟩, by omega⟩
    ·
      simp only [Bool.and_eq_true, Bool.or_eq_true, Bool.and_eq_false_iff, Bool.or_eq_false_iff, decide_eq_true_eq, decide_eq_false_iff_not, Bool.not_eq_true, Bool.not_eq_false, Bool.not_not, Bool.not_eq_eq_eq_not, Bool.not_true, Bool.not_false, Bool.false_eq_true, Bool.true_eq_false, ne_eq, Decidable.not_not, not_false_eq_true, not_true_eq_false] at c31
      refine skip ?_
      show Code.wp _ _ _ _ _
      refine seq ?_
      refine region ?_
      refine sv (yMove rfl) ?_
      refine sv (fa26_2 h2) ?_
      refine sv (yLdB rfl Tryz.isAgg23 (hS.at _) rfl) ?_
      refine sv (yMove h1) ?_
      refine sv (yIxa rfl hat rfl Tryz.runUnderlying23 Tryz.sizeOf36 (by omega) (by omega)) ?_
      refine sv (fa36_2 rfl) ?_
      refine sv (yLd rfl Tryz.isAgg3 ((hcst.ext hS.ext).at (j := 2) rfl)) ?_
      refine sv (yAdd rfl rfl ⟨by omega, by omega⟩) ?_
      refine sv (yAsg rfl) ?_
      refine nil ?_
      show Code.wp _ _ _ _ _
      refine seq ?_
      refine seq ?_
      refine region ?_
      refine sv (yMove h7) ?_
      refine sv (yEql rfl rfl) ?_
      refine nil ?_
      show Code.wp _ _ _ _ _
      refine cond rfl (fun c41 => ?_) (fun c41 => ?_)
      ·
        simp only [Bool.and_eq_true, Bool.or_eq_true, Bool.and_eq_false_iff, Bool.or_eq_false_iff, decide_eq_true_eq, decide_eq_false_iff_not, Bool.not_eq_true, Bool.not_eq_false, Bool.not_not, Bool.not_eq_eq_eq_not, Bool.not_true, Bool.not_false, Bool.false_eq_true, Bool.true_eq_false, ne_eq, Decidable.not_not, not_false_eq_true, not_true_eq_false] at c41
        refine region ?_
        refine sv (yMove rfl) ?_
        refine sv (yMove rfl) ?_
        refine sv (yBuild Tryz.zeroValue44 rfl pl44 (.cons rfl rfl (.cons rfl rfl .nil)) rfl) ?_
        refine sst hS h6 rfl Tryz.sizeOf44 rfl rfl rfl rfl ?_; clear hS; intro w hS
        refine nil ?_
        show Code.wp _ _ _ _ _
        refine seq ?_
        refine region ?_
        refine sv (fa44_0 h6) ?_
        refine sv (yLdB rfl Tryz.isAgg3 (hS.at _) rfl) ?_
        refine sv (yMove rfl) ?_
        refine sv (yMin rfl rfl) ?_
        refine sv (fa44_1 h6) ?_
        refine sv (yLdB rfl Tryz.isAgg3 (hS.at _) rfl) ?_
        refine sv (yMove rfl) ?_
        refine sv (yMax rfl rfl) ?_
        refine sv (yBuild Tryz.zeroValue44 rfl pl44 (.cons rfl rfl (.cons rfl rfl .nil)) rfl) ?_
        refine sst hS h6 rfl Tryz.sizeOf44 rfl rfl rfl rfl ?_; clear hS; intro w hS
        refine nil ?_
        show Code.wp _ _ _ _ _
        refine region ?_
        refine sv (yMove h7) ?_
        refine sv (yAdd rfl rfl ⟨by omega, by omega⟩) ?_
        refine sv (yAsg rfl) ?_
        refine nil ?_
        show Code.wp _ _ _ _ _
        refine region ?_
        refine sv (yMove h8) ?_
        refine sv (yAdd rfl rfl ⟨by omega, by omega⟩) ?_
        refine sv (yAsg rfl) ?_
        refine nil ?_
        have e := (arrP_succ (x := twn t i) hl).trans (arrS_zero c31 c41)
        exact ⟨_, _, rfl, ⟨k + 1, h1, h2, h4, h6, (rfl.trans (congrArg (fun q : Bx.Span × Int => Value.int .i64 q.2) e).symm), rfl, (by rw [e]; exact hS), (by omega), rfl⟩, by omega⟩
      ·
        simp only [Bool.and_eq_true, Bool.or_eq_true, Bool.and_eq_false_iff, Bool.or_eq_false_iff, decide_eq_true_eq, decide_eq_false_iff_not, Bool.not_eq_true, Bool.not_eq_false, Bool.not_not, Bool.not_eq_eq_eq_not, Bool.not_true, Bool.not_false, Bool.false_eq_true, Bool.true_eq_false, ne_eq, Decidable.not_not, not_false_eq_true, not_true_eq_false] at c41
        refine skip ?_
        show Code.wp _ _ _ _ _
        refine seq ?_
        refine region ?_
        refine sv (fa44_0 h6) ?_
        refine sv (yLdB rfl Tryz.isAgg3 (hS.at _) rfl) ?_
        refine sv (yMove rfl) ?_
        refine sv (yMin rfl rfl) ?_
        refine sv (fa44_1 h6) ?_
        refine sv (yLdB rfl Tryz.isAgg3 (hS.at _) rfl) ?_
        refine sv (yMove rfl) ?_
        refine sv (yMax rfl rfl) ?_
        refine sv (yBuild Tryz.zeroValue44 rfl pl44 (.cons rfl rfl (.cons rfl rfl .nil)) rfl) ?_
        refine sst hS h6 rfl Tryz.sizeOf44 rfl rfl rfl rfl ?_; clear hS; intro w hS
        refine nil ?_
        show Code.wp _ _ _ _ _
        refine region ?_
        refine sv (yMove h7) ?_
        refine sv (yAdd rfl rfl ⟨by omega, by omega⟩) ?_
        refine sv (yAsg rfl) ?_
        refine nil ?_
        show Code.wp _ _ _ _ _
        refine region ?_
        refine sv (yMove h8) ?_
        refine sv (yAdd rfl rfl ⟨by omega, by omega⟩) ?_
        refine sv (yAsg rfl) ?_
        refine nil ?_
        have e := (arrP_succ (x := twn t i) hl).trans (arrS_more c31 c41)
        exact ⟨_, _, rfl, ⟨k + 1, h1, h2, h4, h6, (rfl.trans (congrArg (fun q : Bx.Span × Int => Value.int .i64 q.2) e).symm), rfl, (by rw [e]; exact hS), (by omega), rfl⟩, by omega⟩
  ·
    simp only [Bool.and_eq_true, Bool.or_eq_true, Bool.and_eq_false_iff, Bool.or_eq_false_iff, decide_eq_true_eq, decide_eq_false_iff_not, Bool.not_eq_true, Bool.not_eq_false, Bool.not_not, Bool.not_eq_eq_eq_not, Bool.not_true, Bool.not_false, Bool.false_eq_true, Bool.true_eq_false, ne_eq, Decidable.not_not, not_false_eq_true, not_true_eq_false] at c14
    obtain rfl : k = t.floods.length := by omega
    rw [arrP_end] at hS h7
    refine exit ?_
    show Code.wp _ _ _ _ _
    refine seq ?_
    refine region ?_
    refine sv (yLdBA h6 Tryz.isAgg44 Tryz.sizeOf44 (hS.at _) rfl rfl) ?_
    refine sv (yMove h7) ?_
    refine sst hS h4 rfl Tryz.sizeOf44 rfl rfl rfl rfl ?_; clear hS; intro w hS
    refine sv (yAsg rfl) ?_
    refine nil ?_
    show Code.wp _ _ _ _ _
    refine wp_ret ?_
    exact retV (resV2 rfl (rc h4 Tryz.isAgg44 Tryz.sizeOf44 (hS.at _) rfl rfl) (rt rfl)) hS.ext
end Go.Proofs.YtmoilbakmlekbaaGreatDoor

/- part A26 -/
namespace Bx
open Go Go.RowKit
/-- What is better: which history is left out, how much more room, how much less delay, how much earlier. -/
structure Bett where
  hist : Int
  room : Int
  delay : Int
  earl : Int
structure ChkOk (t : Task) : Prop where
  pol : outB t.polders 0 6 = false
  nch : ¬ (4 : Int) < t.chans.length
  chs : ∀ c ∈ t.chans, isName c.name = true ∧ chanE c = 0
  chn : (t.chans.map (·.name)).Nodup
  ntw : ¬ (8 : Int) < t.towns.length
  tws : ∀ x ∈ t.towns, isName x.name = true ∧ townE t.polders t.chans.length x = 0
  twn : (t.towns.map (·.name)).Nodup
  nfl : outB t.floods.length 1 8 = false
  fls : ∀ l ∈ t.floods, floodE t.polders l = 0
end Bx

/- part A27 -/
namespace Bx
open Go Go.RowKit
/-- A log that is right, with nothing sent behind a tick. -/
structure LogOk (t : Task) (all : List Msg) (T : Int) : Prop where
  ok : wrongL t all 0 0 = 0
  sent : ∀ x ∈ all, x.sent ≤ T
theorem LogOk.msgs {t : Task} {all : List Msg} {T : Int} (h : LogOk t all T) : ∀ x ∈ all, MsgOk t x := (wrongL_ok all 0 0 (Int.le_refl _) h.ok).1
theorem sum_mono {g g' : Int → Int} : ∀ {l : List Int}, (∀ j ∈ l, g' j ≤ g j) → (l.map g').sum ≤ (l.map g).sum
  | [], _ => Int.le_refl _
  | x :: l, h => by
    have := sum_mono fun j hj => h j (List.mem_cons_of_mem x hj)
    have := h x (List.mem_cons_self ..)
    simp only [List.map_cons, List.sum_cons]; omega
def pot (t : Task) (all : List Msg) (T i : Int) : Int := (if lastF all i = stageF t i T then 0 else 1) + (if stageF t i T = 1 then 1 else 0)
def potS (t : Task) (all : List Msg) (T : Int) : Int := ((idxL t).map (pot t all T)).sum
theorem pot_bd (t : Task) (all : List Msg) (T i : Int) : 0 ≤ pot t all T i ∧ pot t all T i ≤ 2 := by unfold pot; split <;> split <;> omega
theorem potS_bd (t : Task) (all : List Msg) (T : Int) : 0 ≤ potS t all T ∧ potS t all T ≤ 2 * t.towns.length := by
  have h1 := sum_mono (l := idxL t) (g' := fun _ => 0) (g := pot t all T) fun j _ => (pot_bd t all T j).1
  have h2 := sum_mono (l := idxL t) (g := fun _ => 2) (g' := pot t all T) fun j _ => (pot_bd t all T j).2
  rw [sum_const] at h1 h2
  rw [idxL_len] at h1 h2
  unfold potS
  omega
def restA (t : Task) (log : List Msg) (now : Int) : Nat → List Msg
  | 0 => log
  | i + 1 => restA t log now i ++ nextF t (restA t log now i) (now + i)
structure RestI (t : Task) (log : List Msg) (now : Int) (i : Nat) : Prop where
  ok : wrongL t (restA t log now i) 0 0 = 0
  sent : ∀ x ∈ restA t log now i, x.sent < now + i
  few : ((restA t log now i).length : Int) + potS t (restA t log now i) (now + i) ≤ 116
theorem RestI.wrong {t : Task} {log : List Msg} {now : Int} {i : Nat} (h : RestI t log now i) : wrongF t (restA t log now i) = 0 := by
  have := h.few
  have := (potS_bd t (restA t log now i) (now + i)).1
  unfold wrongF
  rw [if_neg (by omega)]
  exact h.ok
theorem late_no {log : List Msg} {now : Int} (h : ∀ x ∈ log, x.sent ≤ now) (h0 : 0 ≤ now) : lateB log now = false := by
  unfold lateB
  rw [Bool.and_eq_false_iff]
  cases hq : log.getLast? with
  | none => exact .inr (by simpa using h0)
  | some z => exact .inr (by simpa using h z (List.mem_of_getLast? hq))
theorem RestI.next {t : Task} (hck : (checkA t).2.2 = 0) {log : List Msg} {now : Int} (hn : 0 ≤ now ∧ now ≤ 199800) {i : Nat} (hi : i < 40) (h : RestI t log now i) : nextR t (restA t log now i) (now + i) = (nextF t (restA t log now i) (now + i), 0) := by
  have e : nextE t (restA t log now i) (now + i) = 0 := by
    unfold nextE
    rw [if_neg (fun k => k hck), if_neg (fun k => k h.wrong), if_neg]
    rw [outB_false.2 (show 0 ≤ now + (i : Int) ∧ now + (i : Int) ≤ 200000 by omega), late_no (fun x hx => by have := h.sent x hx; omega) (by omega)]
    decide
  unfold nextR
  rw [if_neg (fun k => k e)]
end Bx

/- part A28 -/
namespace Bx
open Go Go.RowKit
theorem LogOk.i64 {t : Task} (ht : TaskOk t) {all : List Msg} {T : Int} (h : LogOk t all T) (hl : all.length ≤ 100000) : ∀ m ∈ all, MsgI m := fun m hm => by
  have h1 := h.msgs m hm
  obtain ⟨k, hk, rfl⟩ := List.getElem_of_mem hm
  have h2 := (wrongL_ok all 0 0 (Int.le_refl _) h.ok).2.1 k _ (List.getElem?_eq_getElem hk)
  have h3 := h1.town
  have h4 := h1.stage
  have h5 := h1.chan
  have h6 := h1.sent
  have := ht.ntw
  have := ht.nch
  refine ⟨⟨by omega, by omega⟩, ⟨by omega, by omega⟩, ⟨by omega, by omega⟩, ⟨by omega, by omega⟩, ⟨by omega, by omega⟩⟩
end Bx

/- part Aw33 -/
namespace Go.Proofs.YtmoilbakmlekbaaGreatDoor
open Go Bx
/-- barrage/barrageref11.earliest -/
theorem c_rearl {t : Task} {hv nv fv : Value} {i : Int} {w0 : World} (h : RTask w0 [.int .i64 t.polders, hv, nv, fv] t) (hok : TaskOk t) (hi : 0 ≤ i ∧ i < t.towns.length) : CV Tryz.prog 80 #[.agg [.int .i64 t.polders, hv, nv, fv].toArray, .int .i64 i] w0 (.int .i64 (arr t i).1.lo) := by
  obtain ⟨hv', nv', fv', he0, hpol, hsh, hsn, hsf⟩ := id h
  obtain ⟨rfl, rfl, rfl⟩ : hv' = hv ∧ nv' = nv ∧ fv' = fv := by simpa [eq_comm] using he0
  obtain ⟨a1, cap1, rfl, hcap1, hmx1, hel1⟩ := id hsh
  obtain ⟨a2, cap2, rfl, hcap2, hmx2, hel2⟩ := id hsn
  obtain ⟨a3, cap3, rfl, hcap3, hmx3, hel3⟩ := id hsf
  refine enter Tryz.func80 rfl Tryz.ntmps80 rfl ?_
  have hS := St.start w0
  refine seq ?_
  refine region ?_
  refine sbox hS rfl rfl ?_; clear hS; intro b2 w hS
  refine sv (yAsg rfl) ?_
  refine nil ?_
  show Code.wp _ _ _ _ _
  refine seq ?_
  refine region ?_
  refine sv (yLdBA rfl Tryz.isAgg26 Tryz.sizeOf26 (hS.at _) rfl rfl) ?_
  refine sv (yMove rfl) ?_
  refine scall Tryz.call71 (.cons rfl (.cons rfl .nil)) (c_rarr (h.ext hS.ext) hok hi) ?_
  rintro _ w ⟨rfl, hE⟩; replace hS := hS.step hE; clear hE
  refine sv (yMove rfl) ?_
  refine sv (yExt rfl rfl) ?_
  refine sv (yExt rfl rfl) ?_
  refine salloc hS Tryz.zeroValue44 rfl ?_; clear hS; intro b5 w hS
  refine sst hS rfl rfl Tryz.sizeOf44 rfl rfl rfl rfl ?_; clear hS; intro w hS
  refine sv (yAsg rfl) ?_
  refine nil ?_
  show Code.wp _ _ _ _ _
  refine seq ?_
  refine region ?_
  refine sv (fa44_0 rfl) ?_
  refine sv (yLdB rfl Tryz.isAgg3 (hS.at _) rfl) ?_
  refine sv (yAsg rfl) ?_
  refine nil ?_
  show Code.wp _ _ _ _ _
  refine wp_ret ?_
  exact retV (res1 rfl rfl) hS.ext
end Go.Proofs.YtmoilbakmlekbaaGreatDoor

/- part A29 -/
namespace Bx
open Go Go.RowKit
theorem Rows.app {α : Type} {w : World} {k : Nat} {R : World → List Value → α → Prop} : ∀ {c1 c2 : List (List Value)} {l1 l2 : List α}, Bx.Rows w k R c1 l1 → Bx.Rows w k R c2 l2 → Bx.Rows w k R (c1 ++ c2) (l1 ++ l2)
  | [], _, [], _, _, h => h
  | _ :: _, _, _ :: _, _, ⟨h1, h2, h3⟩, h => ⟨h1, h2, Rows.app h3 h⟩
  | [], _, _ :: _, _, h, _ => h.elim
  | _ :: _, _, [], _, h, _ => h.elim
end Bx

/- part LibB2 -/
namespace Bx
open Go Go.RowKit
/-- The inner rows of numbers. -/
def inR (v : Value) (z : List Int) : Item := rowI v 3 1 z.length (z.flatMap encI)
def inI (vs : List Value) (zs : List (List Int)) : List Item := List.zipWith inR vs zs
theorem inI_snoc {vs : List Value} {zs : List (List Int)} (h : vs.length = zs.length) (v : Value) (z : List Int) : inI (vs ++ [v]) (zs ++ [z]) = inI vs zs ++ [inR v z] := by
  unfold inI
  rw [List.zipWith_append h]; rfl
theorem inI_split {vs : List Value} {zs : List (List Int)} {k : Nat} {v : Value} {z : List Int} (hv : vs[k]? = some v) (hz : zs[k]? = some z) : inI vs zs = inI (vs.take k) (zs.take k) ++ inR v z :: inI (vs.drop (k + 1)) (zs.drop (k + 1)) := by
  have e1 : vs = vs.take k ++ v :: vs.drop (k + 1) := by
    have := cut_at hv
    rw [List.append_assoc, List.singleton_append] at this
    exact this.symm
  have e2 : zs = zs.take k ++ z :: zs.drop (k + 1) := by
    have := cut_at hz
    rw [List.append_assoc, List.singleton_append] at this
    exact this.symm
  have hl : (vs.take k).length = (zs.take k).length := by
    have h1 := (List.getElem?_eq_some_iff.1 hv).1
    have h2 := (List.getElem?_eq_some_iff.1 hz).1
    rw [List.length_take, List.length_take]; omega
  unfold inI
  conv => lhs; rw [e1, e2]
  rw [List.zipWith_append hl]; rfl
theorem inI_get {vs : List Value} {zs : List (List Int)} {k : Nat} {v : Value} {z : List Int} (hv : vs[k]? = some v) (hz : zs[k]? = some z) : inR v z ∈ inI vs zs := by
  rw [inI_split hv hz]; simp
end Bx
namespace Bx
open Go Go.RowKit
theorem out_cell {w : World} {g z : Nat} {vs : List Value} {v : Value} (h : Cells w g 0 vs) (hv : vs[z]? = some v) : w.cell? ⟨g, z * 1, none⟩ = some v := by
  have := h z v hv
  rwa [Nat.zero_add, ← Nat.mul_one z] at this
end Bx

/- part A31 -/
namespace Bx
open Go Go.RowKit
/-- What the zones are: in each those of the towns whose zone it is. -/
structure ZonesOf (f : Int → Int) (l : List Int) (zs : List (List Int)) : Prop where
  get : ∀ k, k < zs.length → zs[k]? = some (l.filter fun i => decide (f i = (k : Int)))
  lt : ∀ i ∈ l, f i < zs.length
  last : 0 < zs.length → ∃ i ∈ l, f i = (zs.length : Int) - 1
theorem wet_mem {t : Task} {i : Int} (h : i ∈ wetL t) : 0 ≤ i ∧ i < t.towns.length := (mem_wetL.1 h).1
end Bx

/- part Aw38 -/
namespace Go.Proofs.YtmoilbakmlekbaaGreatDoor
open Go Bx
/-- barrage/barrageref01.Ints -/
theorem c_Ints {la lb : List Int} {va vb : Value} {w0 : World} (ha : Sl w0 1 RInt va la) (hb : Sl w0 1 RInt vb lb) : CV Tryz.prog 41 #[va, vb] w0 (.bool (decide (la = lb))) := by
  obtain ⟨aa, ca, rfl, hca, hma, hela⟩ := ha
  obtain ⟨ab, cb, rfl, hcb, hmb, helb⟩ := hb
  refine enter Tryz.func41 rfl Tryz.ntmps41 rfl ?_
  have hS := St.start w0
  refine seq ?_
  refine region ?_
  refine sv (yAsg rfl) ?_
  refine nil ?_
  show Code.wp _ _ _ _ _
  refine seq ?_
  refine seq ?_
  refine region ?_
  refine sv (yMove rfl) ?_
  refine sv (yLen rfl Tryz.underlying34) ?_
  refine sv (yMove rfl) ?_
  refine sv (yLen rfl Tryz.underlying34) ?_
  refine sv (yNeq rfl rfl) ?_
  refine nil ?_
  show Code.wp _ _ _ _ _
  refine cond rfl (fun c10 => ?_) (fun c10 => ?_)
  ·
    simp only [Bool.and_eq_true, Bool.or_eq_true, Bool.and_eq_false_iff, Bool.or_eq_false_iff, decide_eq_true_eq, decide_eq_false_iff_not, Bool.not_eq_true, Bool.not_eq_false, Bool.not_not, Bool.not_eq_eq_eq_not, Bool.not_true, Bool.not_false, Bool.false_eq_true, Bool.true_eq_false, ne_eq, Decidable.not_not, not_false_eq_true, not_true_eq_false] at c10
    refine seq ?_
    refine region ?_
    refine sv (yAsg rfl) ?_
    refine nil ?_
    show Code.wp _ _ _ _ _
    refine wp_ret (thenR ?_)
    exact retV (res1 rfl (eqB (by rw [decide_eq_false (fun h => by rw [h] at c10; exact c10 rfl)]))) hS.ext
  ·
    simp only [Bool.and_eq_true, Bool.or_eq_true, Bool.and_eq_false_iff, Bool.or_eq_false_iff, decide_eq_true_eq, decide_eq_false_iff_not, Bool.not_eq_true, Bool.not_eq_false, Bool.not_not, Bool.not_eq_eq_eq_not, Bool.not_true, Bool.not_false, Bool.false_eq_true, Bool.true_eq_false, ne_eq, Decidable.not_not, not_false_eq_true, not_true_eq_false] at c10
    refine skip ?_
    show Code.wp _ _ _ _ _
    refine seq ?_
    refine seq ?_
    refine region ?_
    refine sv (yAsg rfl) ?_
    refine nil ?_
    show Code.wp _ _ _ _ _
    refine block ?_
    refine loop (fun f w zz => ∃ (k : Nat), f 0 = .slice aa la.length ca ∧ f 1 = .slice ab lb.length cb ∧ f 5 = .int .i64 (k : Int) ∧ StX [] w0 w [] ∧ (k ≤ la.length) ∧ (∀ i, i < k → la[i]? = lb[i]?) ∧ zz = la.length - k) _ ⟨_, rfl, 0, rfl, rfl, rfl, hS, (Nat.zero_le _), (fun i hi => absurd hi (Nat.not_lt_zero i)), rfl⟩ ?_
    clear hS
    rintro f w _ ⟨k, h0, h1, h5, hS, hk, hI, rfl⟩
    refine seq ?_
    refine seq ?_
    refine region ?_
    refine sv (yMove h5) ?_
    refine sv (yMove h0) ?_
    refine sv (yLen rfl Tryz.underlying34) ?_
    refine sv (yLss rfl rfl) ?_
    refine nil ?_
    show Code.wp _ _ _ _ _
    refine cond rfl (fun c14 => ?_) (fun c14 => ?_)
    ·
      simp only [Bool.and_eq_true, Bool.or_eq_true, Bool.and_eq_false_iff, Bool.or_eq_false_iff, decide_eq_true_eq, decide_eq_false_iff_not, Bool.not_eq_true, Bool.not_eq_false, Bool.not_not, Bool.not_eq_eq_eq_not, Bool.not_true, Bool.not_false, Bool.false_eq_true, Bool.true_eq_false, ne_eq, Decidable.not_not, not_false_eq_true, not_true_eq_false] at c14
      obtain ⟨x, hx, hd⟩ := drop_of (l := la) (k := k) (by omega)
      obtain ⟨b, o, cs, ha, hlen, hcs, hR⟩ := hela (k) (by omega)
      obtain rfl : x = la[k] := (List.getElem?_eq_some_iff.1 hx).2.symm
      generalize la[k] = x at hx hd hR
      obtain ⟨rfl, _⟩ := hR
      obtain ⟨y, hxq, hdq⟩ := drop_of (l := lb) (k := k) (by omega)
      obtain ⟨bq, oq, csq, haq, hlenq, hcsq, hRq⟩ := helb (k) (by omega)
      obtain rfl : y = lb[k] := (List.getElem?_eq_some_iff.1 hxq).2.symm
      generalize lb[k] = y at hxq hdq hRq
      obtain ⟨rfl, _⟩ := hRq
      refine skip ?_
      show Code.wp _ _ _ _ _
      refine seq ?_
      refine block ?_
      refine seq ?_
      refine region_draw mixed (by kernel_rfl) hS ?_
      refine qv (fun w hS => (yMove h0)) ?_
      refine qv (fun w hS => (yMove h5)) ?_
      refine qv (fun w hS => (yIxa rfl ha rfl Tryz.runUnderlying34 Tryz.sizeOf3 (by omega) (by omega))) ?_
      refine qv (fun w hS => (yLd rfl Tryz.isAgg3 ((hcs.ext hS.ext).one))) ?_
      refine qv (fun w hS => (yMove h1)) ?_
      refine qv (fun w hS => (yMove h5)) ?_
      refine qv (fun w hS => (yIxa rfl haq rfl Tryz.runUnderlying34 Tryz.sizeOf3 (by omega) (by omega))) ?_
      refine qv (fun w hS => (yLd rfl Tryz.isAgg3 ((hcsq.ext hS.ext).one))) ?_
      refine qv (fun w hS => (yNeq rfl rfl)) ?_
      clear hS; refine qnil (fun w hS => ?_)
      show Code.wp _ _ _ _ _
      refine cond rfl (fun c25 => ?_) (fun c25 => ?_)
      ·
        simp only [Bool.and_eq_true, Bool.or_eq_true, Bool.and_eq_false_iff, Bool.or_eq_false_iff, decide_eq_true_eq, decide_eq_false_iff_not, Bool.not_eq_true, Bool.not_eq_false, Bool.not_not, Bool.not_eq_eq_eq_not, Bool.not_true, Bool.not_false, Bool.false_eq_true, Bool.true_eq_false, ne_eq, Decidable.not_not, not_false_eq_true, not_true_eq_false] at c25
        have hne : x ≠ y := fun h => by subst h; simp at c25
        refine seq ?_
        refine region ?_
        refine sv (yAsg rfl) ?_
        refine nil ?_
        show Code.wp _ _ _ _ _
        refine wp_ret (blockR (thenR (thenR (blockR (thenR ?_)))))
        exact retV (res1 rfl (eqB (by rw [decide_eq_false (ne_of_get hx hxq hne)]))) hS.ext
      ·
        simp only [Bool.and_eq_true, Bool.or_eq_true, Bool.and_eq_false_iff, Bool.or_eq_false_iff, decide_eq_true_eq, decide_eq_false_iff_not, Bool.not_eq_true, Bool.not_eq_false, Bool.not_not, Bool.not_eq_eq_eq_not, Bool.not_true, Bool.not_false, Bool.false_eq_true, Bool.true_eq_false, ne_eq, Decidable.not_not, not_false_eq_true, not_true_eq_false] at c25
        have hxy : x = y := c25
        refine skip ?_
        show Code.wp _ _ _ _ _
        refine region ?_
        refine sv (yMove h5) ?_
        refine sv (yAdd rfl rfl ⟨by omega, by omega⟩) ?_
        refine sv (yAsg rfl) ?_
        refine nil ?_
        exact ⟨_, _, rfl, ⟨k + 1, h0, h1, rfl, hS, (by omega), (snoc hI (by rw [hx, hxq, hxy])), rfl⟩, by omega⟩
    ·
      simp only [Bool.and_eq_true, Bool.or_eq_true, Bool.and_eq_false_iff, Bool.or_eq_false_iff, decide_eq_true_eq, decide_eq_false_iff_not, Bool.not_eq_true, Bool.not_eq_false, Bool.not_not, Bool.not_eq_eq_eq_not, Bool.not_true, Bool.not_false, Bool.false_eq_true, Bool.true_eq_false, ne_eq, Decidable.not_not, not_false_eq_true, not_true_eq_false] at c14
      refine exit ?_
      show Code.wp _ _ _ _ _
      refine seq ?_
      refine region ?_
      refine sv (yAsg rfl) ?_
      refine nil ?_
      show Code.wp _ _ _ _ _
      refine wp_ret ?_
      exact retV (res1 rfl (eqB (by rw [decide_eq_true (eq_of_get (by omega) (fun i hi => hI i (by omega)))]))) hS.ext
end Go.Proofs.YtmoilbakmlekbaaGreatDoor

/- part Aw39 -/
namespace Go.Proofs.YtmoilbakmlekbaaGreatDoor
open Go Bx
set_option maxHeartbeats 1000000 in
/-- barrage/barrageref11.wet -/
theorem c_rwet {t : Task} {hv nv fv : Value} {w0 : World} (h : RTask w0 [.int .i64 t.polders, hv, nv, fv] t) (hok : TaskOk t) : CE Tryz.prog 79 #[.agg [.int .i64 t.polders, hv, nv, fv].toArray] w0 (fun u w' => St w0 w' [rowI u 3 1 (wetL t).length ((wetL t).flatMap Bx.encI)]) := by
  obtain ⟨hv', nv', fv', he0, hpol, hsh, hsn, hsf⟩ := id h
  obtain ⟨rfl, rfl, rfl⟩ : hv' = hv ∧ nv' = nv ∧ fv' = fv := by simpa [eq_comm] using he0
  obtain ⟨a1, cap1, rfl, hcap1, hmx1, hel1⟩ := id hsh
  obtain ⟨a2, cap2, rfl, hcap2, hmx2, hel2⟩ := id hsn
  obtain ⟨a3, cap3, rfl, hcap3, hmx3, hel3⟩ := id hsf
  have hn8 := hok.ntw
  refine enter Tryz.func79 rfl Tryz.ntmps79 rfl ?_
  have hS := St.start w0
  refine seq ?_
  refine region ?_
  refine sbox hS rfl rfl ?_; clear hS; intro b1 w hS
  refine sv (yAsg rfl) ?_
  refine nil ?_
  show Code.wp _ _ _ _ _
  refine seq ?_
  refine region ?_
  refine sv (yAsg rfl) ?_
  refine nil ?_
  show Code.wp _ _ _ _ _
  refine seq ?_
  refine seq ?_
  refine region ?_
  refine sv (yAsg rfl) ?_
  refine nil ?_
  show Code.wp _ _ _ _ _
  refine block ?_
  refine loop (fun f w zz => ∃ (k : Nat) (v : Value), f 1 = .pointer (some ⟨b1, 0, none⟩) ∧ f 3 = v ∧ f 4 = .int .i64 (k : Int) ∧ StX [] w0 w [rowI v 3 1 (((idxL t).take k).filter fun i => decide (0 < (arr t i).2)).length ((((idxL t).take k).filter fun i => decide (0 < (arr t i).2)).flatMap Bx.encI), blk b1 [.int .i64 t.polders, .slice a1 t.chans.length cap1, .slice a2 t.towns.length cap2, .slice a3 t.floods.length cap3] 26] ∧ (k ≤ t.towns.length) ∧ zz = t.towns.length - k) _ ⟨_, rfl, 0, _, rfl, rfl, rfl, (hS.nilrow 3 1), (Nat.zero_le _), rfl⟩ ?_
  clear hS
  rintro f w _ ⟨k, v, h1, h3, h4, hS, hk, rfl⟩
  refine seq ?_
  refine seq ?_
  refine region ?_
  refine sv (yMove h4) ?_
  refine sv (fa26_2 h1) ?_
  refine sv (yLdB rfl Tryz.isAgg23 (hS.at _) rfl) ?_
  refine sv (yLen rfl Tryz.underlying23) ?_
  refine sv (yLss rfl rfl) ?_
  refine nil ?_
  show Code.wp _ _ _ _ _
  refine cond rfl (fun c11 => ?_) (fun c11 => ?_)
  ·
    simp only [Bool.and_eq_true, Bool.or_eq_true, Bool.and_eq_false_iff, Bool.or_eq_false_iff, decide_eq_true_eq, decide_eq_false_iff_not, Bool.not_eq_true, Bool.not_eq_false, Bool.not_not, Bool.not_eq_eq_eq_not, Bool.not_true, Bool.not_false, Bool.false_eq_true, Bool.true_eq_false, ne_eq, Decidable.not_not, not_false_eq_true, not_true_eq_false] at c11
    have hkn : k < t.towns.length := by omega
    have hi : 0 ≤ (k : Int) ∧ (k : Int) < t.towns.length := by omega
    have hfl : (((idxL t).take k).filter fun i => decide (0 < (arr t i).2)).length ≤ k := Nat.le_trans (List.length_filter_le _ _) (by simp; omega)
    refine skip ?_
    show Code.wp _ _ _ _ _
    refine seq ?_
    refine block ?_
    refine seq ?_
    refine region ?_
    refine sv (yLdBA h1 Tryz.isAgg26 Tryz.sizeOf26 (hS.at _) rfl rfl) ?_
    refine sv (yMove h4) ?_
    refine scall Tryz.call71 (.cons rfl (.cons rfl .nil)) (c_rarr (h.ext hS.ext) hok hi) ?_
    rintro _ w ⟨rfl, hE⟩; replace hS := hS.step hE; clear hE
    refine sv (yMove rfl) ?_
    refine sv (yExt rfl rfl) ?_
    refine sv (yExt rfl rfl) ?_
    refine salloc hS Tryz.zeroValue44 rfl ?_; clear hS; intro b5 w hS
    refine sst hS rfl rfl Tryz.sizeOf44 rfl rfl rfl rfl ?_; clear hS; intro w hS
    refine sv (yAsg rfl) ?_
    refine nil ?_
    show Code.wp _ _ _ _ _
    refine seq ?_
    refine region ?_
    refine sv (yMove rfl) ?_
    refine sv (yGtr rfl rfl) ?_
    refine nil ?_
    show Code.wp _ _ _ _ _
    refine cond rfl (fun c21 => ?_) (fun c21 => ?_)
    ·
      simp only [Bool.and_eq_true, Bool.or_eq_true, Bool.and_eq_false_iff, Bool.or_eq_false_iff, decide_eq_true_eq, decide_eq_false_iff_not, Bool.not_eq_true, Bool.not_eq_false, Bool.not_not, Bool.not_eq_eq_eq_not, Bool.not_true, Bool.not_false, Bool.false_eq_true, Bool.true_eq_false, ne_eq, Decidable.not_not, not_false_eq_true, not_true_eq_false] at c21
      refine region ?_
      refine sv (yMove h3) ?_
      refine sv (yMove h4) ?_
      refine sbslice hS Tryz.underlying34 Tryz.sizeOf3 rfl Tryz.zeroValue3 rfl (.cons rfl rfl .nil) rfl ?_; clear hS; intro b24 w hS
      refine sapp (bytes := 8) (size := 1) (v := v) (m := 1) hS rfl rfl Tryz.underlying34 ti3 rfl rfl rfl rfl (by decide) (blk_cells (hS.at _)) rfl rfl (by omega) (by omega) ?_; clear hS; intro v25 w hS
      refine sv (yAsg rfl) ?_
      refine nil ?_
      show Code.wp _ _ _ _ _
      refine region ?_
      refine sv (yMove h4) ?_
      refine sv (yAdd rfl rfl ⟨by omega, by omega⟩) ?_
      refine sv (yAsg rfl) ?_
      refine nil ?_
      exact ⟨_, _, rfl, ⟨k + 1, _, h1, rfl, rfl, (by rw [take_snoc (idxL_get hkn), List.filter_append, List.filter_cons_of_pos (by simpa using c21), List.filter_nil, List.flatMap_append, List.length_append]; exact hS.sub (.cons _ (.cons _ (List.Sublist.refl _)))), (by omega), rfl⟩, by omega⟩
    ·
      simp only [Bool.and_eq_true, Bool.or_eq_true, Bool.and_eq_false_iff, Bool.or_eq_false_iff, decide_eq_true_eq, decide_eq_false_iff_not, Bool.not_eq_true, Bool.not_eq_false, Bool.not_not, Bool.not_eq_eq_eq_not, Bool.not_true, Bool.not_false, Bool.false_eq_true, Bool.true_eq_false, ne_eq, Decidable.not_not, not_false_eq_true, not_true_eq_false] at c21
      refine skip ?_
      show Code.wp _ _ _ _ _
      refine region ?_
      refine sv (yMove h4) ?_
      refine sv (yAdd rfl rfl ⟨by omega, by omega⟩) ?_
      refine sv (yAsg rfl) ?_
      refine nil ?_
      exact ⟨_, _, rfl, ⟨k + 1, _, h1, h3, rfl, (by rw [take_snoc (idxL_get hkn), List.filter_append, List.filter_cons_of_neg (by simpa using c21), List.filter_nil, List.append_nil]; exact hS.sub (.cons _ (List.Sublist.refl _))), (by omega), rfl⟩, by omega⟩
  ·
    simp only [Bool.and_eq_true, Bool.or_eq_true, Bool.and_eq_false_iff, Bool.or_eq_false_iff, decide_eq_true_eq, decide_eq_false_iff_not, Bool.not_eq_true, Bool.not_eq_false, Bool.not_not, Bool.not_eq_eq_eq_not, Bool.not_true, Bool.not_false, Bool.false_eq_true, Bool.true_eq_false, ne_eq, Decidable.not_not, not_false_eq_true, not_true_eq_false] at c11
    obtain rfl : k = t.towns.length := by omega
    rw [show (idxL t).take t.towns.length = idxL t by rw [← idxL_len]; exact List.take_length] at hS
    refine exit ?_
    show Code.wp _ _ _ _ _
    refine seq ?_
    refine region ?_
    refine sv (yMove h3) ?_
    refine sv (yAsg rfl) ?_
    refine nil ?_
    show Code.wp _ _ _ _ _
    refine wp_ret ?_
    refine retQ (res1 rfl rfl) ?_
    exact hS.sub (.cons_cons _ (List.nil_sublist _))
end Go.Proofs.YtmoilbakmlekbaaGreatDoor

/- part A33 -/
namespace Bx
open Go Go.RowKit
section
variable {P : Program} {ρ : Operand → Value} {w : World} {ty : TypeId}
theorem yShlI {x y : Operand} {a k : Int} {t t' : TypeId} (hx : ρ x = .int .i64 a) (hy : ρ y = .int .i64 k) (h0 : 0 ≤ k) (h8 : k < 63) (hb : I64 (a * 2 ^ k.toNat)) : Y P ρ (.binOp .shl t x y t') ty w (.int .i64 (a * 2 ^ k.toNat)) w := by
  have h1 : ¬ k < 0 := by omega
  have h2 : min k.toNat 64 = k.toNat := by omega
  have h3 := wrap_in hb
  simp only [Y, xop, execOp, hx, hy, eqGuard, binOp, Op.shift, IntKind.bits, h1, h2, if_false]
  rw [h3]; rfl
theorem yAnd1 {x y : Operand} {a : Int} {t t' : TypeId} (hx : ρ x = .int .i64 a) (hy : ρ y = .int .i64 1) (h : 0 ≤ a ∧ a ≤ 9223372036854775807) : Y P ρ (.binOp .and t x y t') ty w (.int .i64 (a % 2)) w := by
  obtain ⟨n, rfl⟩ := Int.eq_ofNat_of_zero_le h.1
  have e : (BitVec.ofInt IntKind.i64.bits (n : Int) &&& BitVec.ofInt IntKind.i64.bits 1).toNat = n % 2 := by
    rw [BitVec.toNat_and, BitVec.toNat_ofInt, BitVec.toNat_ofInt]
    have e1 : ((n : Int) % ((2 ^ IntKind.i64.bits : Nat) : Int)).toNat = n := by
      have : ((2 ^ IntKind.i64.bits : Nat) : Int) = 18446744073709551616 := rfl
      rw [this]; omega
    have e2 : ((1 : Int) % ((2 ^ IntKind.i64.bits : Nat) : Int)).toNat = 1 := rfl
    rw [e1, e2, Nat.and_one_is_mod]
  have h3 : IntKind.i64.wrap ((n % 2 : Nat) : Int) = ((n : Int) % 2) := by
    rw [wrap_in ⟨by omega, by omega⟩]; omega
  simp only [Y, xop, execOp, hx, hy, eqGuard, binOp, Op.intBits]
  rw [e, h3]; rfl
end
theorem scopeR {a : Act} {Q : Exit → Act → World → Prop} {w : World} (h : Q .ret a w) : Exit.noGoto Q .ret a w := h
theorem scope {P : Program} {c : Code} {a : Act} {Q : Exit → Act → World → Prop} {w : World} (h : c.wp P (Exit.noGoto Q) a w) : (Code.scope c).wp P Q a w := wp_scope_straight h
theorem label {P : Program} {l : Nat} {a : Act} {Q : Exit → Act → World → Prop} {w : World} (h : Q .normal a w) : (Code.label l).wp P Q a w := wp_label h
theorem subsB_snoc : ∀ (l : List Int) (b : Nat) (a : Int), subsB (l ++ [a]) b = subsB l b ++ if b / 2 ^ l.length % 2 = 1 then [a] else []
  | [], b, a => by simp [subsB]
  | x :: l, b, a => by
    rw [List.cons_append, subsB, subsB, subsB_snoc l, List.length_cons, Nat.pow_succ, Nat.div_div_eq_div_mul, Nat.mul_comm 2 (2 ^ l.length)]
    split <;> rfl
theorem subsB_step {l : List Int} {k : Nat} {a : Int} (h : l[k]? = some a) (b : Nat) : subsB (l.take (k + 1)) b = subsB (l.take k) b ++ if b / 2 ^ k % 2 = 1 then [a] else [] := by
  have hk := (List.getElem?_eq_some_iff.1 h).1
  rw [take_snoc h, subsB_snoc, List.length_take, Nat.min_eq_left (by omega)]
theorem bitSets_len (l : List Int) : (bitSets l).length = 2 ^ l.length - 1 := by simp [bitSets]
theorem bitSets_get {l : List Int} {b : Nat} (h : b < 2 ^ l.length - 1) : (bitSets l)[b]? = some (subsB l (b + 1)) := by simp [bitSets, h]
theorem subsB_len (l : List Int) (b : Nat) : (subsB l b).length ≤ l.length := (subsB_sub l b).length_le
def cmpL : List Int → List Int → Int
  | [], [] => 0
  | [], _ :: _ => -1
  | _ :: _, [] => 1
  | x :: a, y :: b => if x < y then -1 else if y < x then 1 else cmpL a b
theorem cmpL_lex : ∀ {a b : List Int}, a.length = b.length → (cmpL a b < 0 ↔ lexB a b = true)
  | [], [], _ => by simp [cmpL, lexB]
  | [], _ :: _, h => by simp at h
  | _ :: _, [], h => by simp at h
  | x :: a, y :: b, h => by
    have ih := cmpL_lex (a := a) (b := b) (by simpa using h)
    rw [cmpL, lexB]
    simp only [Bool.or_eq_true, Bool.and_eq_true, decide_eq_true_eq]
    split
    · next h1 => exact ⟨fun _ => .inl h1, fun _ => by decide⟩
    · next h1 =>
      split
      · next h2 => exact ⟨fun h => absurd h (by decide), fun h => by omega⟩
      · next h2 =>
        have e : x = y := by omega
        rw [ih]
        exact ⟨fun h => .inr ⟨e, h⟩, fun h => by rcases h with h | h; exact absurd h h1; exact h.2⟩
/-- How the two lists stand behind a place up to which they are the same. -/
theorem cmpL_drop {a b : List Int} {k : Nat} {x y : Int} (hx : a[k]? = some x) (hy : b[k]? = some y) (hI : cmpL a b = cmpL (a.drop k) (b.drop k)) : cmpL a b = if x < y then -1 else if y < x then 1 else cmpL (a.drop (k + 1)) (b.drop (k + 1)) := by
  have hk := (List.getElem?_eq_some_iff.1 hx)
  have hk2 := (List.getElem?_eq_some_iff.1 hy)
  rw [hI, List.drop_eq_getElem_cons hk.1, List.drop_eq_getElem_cons hk2.1, hk.2, hk2.2, cmpL]
theorem cmpL_long {a b : List Int} {k : Nat} (ha : k < a.length) (hb : b.length ≤ k) (hI : cmpL a b = cmpL (a.drop k) (b.drop k)) : cmpL a b = 1 := by
  rw [hI, List.drop_eq_getElem_cons ha, List.drop_of_length_le hb]; rfl
theorem cmpL_end {a b : List Int} (hI : cmpL a b = cmpL (a.drop a.length) (b.drop a.length)) : cmpL a b = if a.length < b.length then -1 else 0 := by
  rw [hI, List.drop_length]
  by_cases h : a.length < b.length
  · rw [if_pos h, List.drop_eq_getElem_cons h]; rfl
  · rw [if_neg h, List.drop_of_length_le (by omega)]; rfl
def blkP (t : Task) (now : Int) (s : List Int) : Bool := decide ((plT t now).slots (chL t) s < s.length)
def blkO (t : Task) (now : Int) : Option (List Int) := bestL (blkP t now) (bitSets (wetL t))
def blkR (t : Task) (now : Int) : List Int × Int := if atE t now ≠ 0 then ([], atE t now) else ((blkO t now).getD [], 0)
theorem best_take {p : List Int → Bool} {l : List (List Int)} {k : Nat} {s : List Int} (h : l[k]? = some s) : bestL p (l.take (k + 1)) = bestStep p (bestL p (l.take k)) s := by rw [take_snoc h, bestL_snoc]
theorem best_mem {p : List Int → Bool} {l : List (List Int)} {g : List Int} (h : bestL p l = some g) : g ∈ l ∧ p g = true := by
  have := bestL_best p l
  rw [h] at this
  exact ⟨this.1, this.2.1⟩
theorem bit_set {l : List Int} {b : Nat} (h0 : 0 < b) (hb : b < 2 ^ l.length) : subsB l b ≠ [] := fun e => by
  have := subsB_nil hb e; omega
theorem best_ne {p : List Int → Bool} {l : List Int} {k : Nat} {g : List Int} (h : bestL p ((bitSets l).take k) = some g) : g ≠ [] ∧ g.Sublist l := by
  have h1 := (best_mem h).1
  have h2 := mem_bitSets.1 (List.mem_of_mem_take h1)
  exact ⟨h2.2, h2.1⟩
theorem befB_cmp {s g : List Int} : befB s g = (decide ((s.length : Int) < g.length) || (decide ((s.length : Int) = g.length) && decide (cmpL s g < 0))) := by
  unfold befB
  rw [Bool.eq_iff_iff]
  simp only [Bool.or_eq_true, Bool.and_eq_true, decide_eq_true_eq]
  constructor
  · rintro (h | ⟨h1, h2⟩)
    · exact .inl (by omega)
    · exact .inr ⟨by omega, (cmpL_lex h1).2 h2⟩
  · rintro (h | ⟨h1, h2⟩)
    · exact .inl (by omega)
    · exact .inr ⟨by omega, (cmpL_lex (by omega)).1 h2⟩
/-- What the program asks, in its words. -/
def betB (fo : Option (List Int)) (s : List Int) : Bool := match fo with | none => true | some g => befB s g
theorem bestStep_y {p : List Int → Bool} {fo : Option (List Int)} {s : List Int} (h1 : betB fo s = true) (h2 : p s = true) : bestStep p fo s = some s := by
  unfold bestStep
  exact if_pos ⟨h1, h2⟩
theorem bestStep_n {p : List Int → Bool} {fo : Option (List Int)} {s : List Int} (h : betB fo s = false ∨ p s = false) : bestStep p fo s = fo := by
  unfold bestStep
  refine if_neg fun k => ?_
  have h1 : betB fo s = true := k.1
  have h2 := k.2
  rcases h with h | h
  · rw [h] at h1; cases h1
  · rw [h] at h2; cases h2
theorem betB_eq {fo : Option (List Int)} {s : List Int} {b : Bool} {n : Int} {c : Int} (hb : b = decide (fo = none)) (hn : n = ((fo.getD []).length : Int)) (hc : c = cmpL s (fo.getD [])) : betB fo s = ((b || decide ((s.length : Int) < n)) || (decide ((s.length : Int) = n) && decide (c < 0))) := by
  subst hb hn hc
  cases fo with
  | none => rfl
  | some g =>
    have e : decide ((some g : Option (List Int)) = none) = false := by simp
    rw [e, Bool.false_or]
    exact befB_cmp
end Bx
namespace Bx
open Go Go.RowKit
theorem any_has {l : List Int} {v : Int} : (l.any fun x => decide (v = x)) = decide (v ∈ l) := by
  rw [Bool.eq_iff_iff]; simp
theorem cmp_hit {x y r : Int} (h : cmpI x y ≠ 0) : (if x < y then -1 else if y < x then 1 else r) = cmpI x y := by
  unfold cmpI at h ⊢
  split
  · rfl
  · rename_i h1
    rw [if_neg h1] at h
    split
    · rfl
    · rename_i h2
      rw [if_neg h2] at h; exact absurd rfl h
theorem cmp_eq {x y r : Int} (h : cmpI x y = 0) : (if x < y then -1 else if y < x then 1 else r) = r := by
  unfold cmpI at h
  split
  · rename_i h1; rw [if_pos h1] at h; cases h
  · rename_i h1
    rw [if_neg h1] at h
    split
    · rename_i h2; rw [if_pos h2] at h; cases h
    · rfl
theorem pow_cast (n : Nat) : (1 : Int) * 2 ^ ((n : Nat) : Int).toNat = ((2 ^ n : Nat) : Int) := by
  rw [Int.one_mul, Int.toNat_natCast]; push_cast; rfl
theorem pow_le8 {n : Nat} (h : n ≤ 8) : 1 ≤ 2 ^ n ∧ 2 ^ n ≤ 256 := by
  refine ⟨Nat.one_le_two_pow, ?_⟩
  exact Nat.le_trans (Nat.pow_le_pow_right (by decide) h) (by decide)
theorem bit_div (b k : Nat) : ((b : Int) + 1) / 2 ^ ((k : Nat) : Int).toNat = (((b + 1) / 2 ^ k : Nat) : Int) := by
  rw [Int.toNat_natCast]; push_cast; rfl
theorem bit_mod (n : Nat) : ((n : Nat) : Int) % 2 = 1 ↔ n % 2 = 1 := by omega
theorem skip_of {t : Task} {now : Int} {fo : Option (List Int)} {s : List Int} {e : Bool} (he : betB fo s = e) (h : (!e || decide ((s.length : Int) ≤ (plT t now).slots (chL t) s)) = true) : betB fo s = false ∨ blkP t now s = false := by
  rw [← he, Bool.or_eq_true, Bool.not_eq_true', decide_eq_true_eq] at h
  rcases h with h | h
  · exact .inl h
  · refine .inr ?_
    unfold blkP
    rw [decide_eq_false_iff_not]; omega
theorem take_of {t : Task} {now : Int} {fo : Option (List Int)} {s : List Int} {e : Bool} (he : betB fo s = e) (h : (!e || decide ((s.length : Int) ≤ (plT t now).slots (chL t) s)) = false) : betB fo s = true ∧ blkP t now s = true := by
  rw [← he, Bool.or_eq_false_iff, Bool.not_eq_false', decide_eq_false_iff_not] at h
  refine ⟨h.1, ?_⟩
  unfold blkP
  rw [decide_eq_true_eq]; omega
theorem blk_done {t : Task} {now : Int} {b : Nat} {fo : Option (List Int)} (ha : atE t now = 0) (hb : 2 ^ (wetL t).length - 1 ≤ b) (h : fo = bestL (blkP t now) ((bitSets (wetL t)).take b)) : blkR t now = (fo.getD [], 0) := by
  unfold blkR blkO
  rw [if_neg (fun k => k ha), h, List.take_of_length_le (by rw [bitSets_len]; omega)]
theorem isNone_dec {a : Option Addr} {fo : Option (List Int)} (h : a = none ↔ fo = none) : a.isNone = decide (fo = none) := by
  cases a with
  | none => rw [decide_eq_true (h.1 rfl)]; rfl
  | some x => rw [decide_eq_false (fun k => by have := h.2 k; cases this)]; rfl
theorem getD_mem {fo : Option (List Int)} {l : List Int} (h : ∀ g, fo = some g → g.Sublist l) : ∀ x ∈ fo.getD [], x ∈ l := by
  cases fo with
  | none => intro x hx; cases hx
  | some g => exact fun x hx => (h g rfl).subset hx
theorem getD_len {fo : Option (List Int)} {l : List Int} (h : ∀ g, fo = some g → g.Sublist l) : (fo.getD []).length ≤ l.length := by
  cases fo with
  | none => exact Nat.zero_le _
  | some g => exact (h g rfl).length_le
end Bx
namespace Bx
theorem bit_bd {b k : Nat} (h : b + 1 ≤ 256) : 0 ≤ ((b : Int) + 1) / 2 ^ ((k : Nat) : Int).toNat ∧ ((b : Int) + 1) / 2 ^ ((k : Nat) : Int).toNat ≤ 9223372036854775807 := by
  rw [bit_div]
  exact ⟨Int.natCast_nonneg _, Int.le_trans (Int.ofNat_le.2 (Nat.le_trans (Nat.div_le_self _ _) h)) (by decide)⟩
end Bx

/- part Aw42 -/
namespace Go.Proofs.YtmoilbakmlekbaaGreatDoor
open Go Bx
/-- slices.Index   int,int  -/
theorem c_IndexI {l : List Int} {x : Int} {v : Value} {w0 : World} (hsl : Sl w0 1 RInt v l) : CV Tryz.prog 140 #[v, .int .i64 x] w0 (.int .i64 (idxF (fun y => decide (x = y)) l 0)) := by
  obtain ⟨a, cap, rfl, hcap, hmx, hel⟩ := hsl
  refine enter Tryz.func140 rfl Tryz.ntmps140 rfl ?_
  have hS := St.start w0
  refine seq ?_
  refine region ?_
  refine sv (yAsg rfl) ?_
  refine nil ?_
  show Code.wp _ _ _ _ _
  refine seq ?_
  refine seq ?_
  refine region ?_
  refine sv (yMove rfl) ?_
  refine sv (yLen rfl Tryz.underlying34) ?_
  refine sv (yMove rfl) ?_
  refine nil ?_
  show Code.wp _ _ _ _ _
  refine block ?_
  refine loop (fun f w zz => ∃ (k : Nat), f 0 = .slice a l.length cap ∧ f 1 = .int .i64 x ∧ f 7 = .int .i64 (l.length : Int) ∧ f 8 = .int .i64 (k : Int) ∧ StX [] w0 w [] ∧ (k ≤ l.length) ∧ (idxF (fun y => decide (x = y)) l 0 = idxF (fun y => decide (x = y)) (l.drop k) k) ∧ zz = l.length - k) _ ⟨_, rfl, 0, rfl, rfl, rfl, rfl, hS, (Nat.zero_le _), (rfl), rfl⟩ ?_
  clear hS
  rintro f w _ ⟨k, h0, h1, h7, h8, hS, hk, hI, rfl⟩
  refine seq ?_
  refine region ?_
  refine sv (yLss h8 h7) ?_
  refine nil ?_
  show Code.wp _ _ _ _ _
  refine seq ?_
  refine cond rfl (fun c9 => ?_) (fun c9 => ?_)
  ·
    simp only [Bool.and_eq_true, Bool.or_eq_true, Bool.and_eq_false_iff, Bool.or_eq_false_iff, decide_eq_true_eq, decide_eq_false_iff_not, Bool.not_eq_true, Bool.not_eq_false, Bool.not_not, Bool.not_eq_eq_eq_not, Bool.not_true, Bool.not_false, Bool.false_eq_true, Bool.true_eq_false, ne_eq, Decidable.not_not, not_false_eq_true, not_true_eq_false] at c9
    obtain ⟨q, hxq, hdq⟩ := drop_of (l := l) (k := k) (by omega)
    obtain ⟨bq, oq, csq, haq, hlenq, hcsq, hRq⟩ := hel (k) (by omega)
    obtain rfl : q = l[k] := (List.getElem?_eq_some_iff.1 hxq).2.symm
    generalize l[k] = q at hxq hdq hRq
    obtain ⟨rfl, -⟩ := hRq
    refine skip ?_
    show Code.wp _ _ _ _ _
    refine seq ?_
    refine block ?_
    refine seq ?_
    refine region ?_
    refine sv (yMove h8) ?_
    refine sv (yAsg rfl) ?_
    refine nil ?_
    show Code.wp _ _ _ _ _
    refine seq ?_
    refine region ?_
    refine sv (yMove h1) ?_
    refine sv (yMove h0) ?_
    refine sv (yMove rfl) ?_
    refine sv (yIxa rfl haq rfl Tryz.runUnderlying34 Tryz.sizeOf3 (by omega) (by omega)) ?_
    refine sv (yLd rfl Tryz.isAgg3 ((hcsq.ext hS.ext).one)) ?_
    refine sv (yEql rfl rfl) ?_
    refine nil ?_
    show Code.wp _ _ _ _ _
    refine cond rfl (fun c16 => ?_) (fun c16 => ?_)
    ·
      simp only [Bool.and_eq_true, Bool.or_eq_true, Bool.and_eq_false_iff, Bool.or_eq_false_iff, decide_eq_true_eq, decide_eq_false_iff_not, Bool.not_eq_true, Bool.not_eq_false, Bool.not_not, Bool.not_eq_eq_eq_not, Bool.not_true, Bool.not_false, Bool.false_eq_true, Bool.true_eq_false, ne_eq, Decidable.not_not, not_false_eq_true, not_true_eq_false] at c16
      refine seq ?_
      refine region ?_
      refine sv (yMove rfl) ?_
      refine sv (yAsg rfl) ?_
      refine nil ?_
      show Code.wp _ _ _ _ _
      refine wp_ret (blockR (thenR (thenR (blockR (thenR ?_)))))
      exact retV (res1 rfl (eqI (by rw [hI, hdq, idxF, if_pos (by simpa using c16)]))) hS.ext
    ·
      simp only [Bool.and_eq_true, Bool.or_eq_true, Bool.and_eq_false_iff, Bool.or_eq_false_iff, decide_eq_true_eq, decide_eq_false_iff_not, Bool.not_eq_true, Bool.not_eq_false, Bool.not_not, Bool.not_eq_eq_eq_not, Bool.not_true, Bool.not_false, Bool.false_eq_true, Bool.true_eq_false, ne_eq, Decidable.not_not, not_false_eq_true, not_true_eq_false] at c16
      refine skip ?_
      show Code.wp _ _ _ _ _
      refine region ?_
      refine sv (yAdd h8 rfl ⟨by omega, by omega⟩) ?_
      refine sv (yMove rfl) ?_
      refine nil ?_
      exact ⟨_, _, rfl, ⟨k + 1, h0, h1, h7, rfl, hS, (by omega), (by rw [hI, hdq, idxF, if_neg (by simpa using c16)]; rfl), rfl⟩, by omega⟩
  ·
    simp only [Bool.and_eq_true, Bool.or_eq_true, Bool.and_eq_false_iff, Bool.or_eq_false_iff, decide_eq_true_eq, decide_eq_false_iff_not, Bool.not_eq_true, Bool.not_eq_false, Bool.not_not, Bool.not_eq_eq_eq_not, Bool.not_true, Bool.not_false, Bool.false_eq_true, Bool.true_eq_false, ne_eq, Decidable.not_not, not_false_eq_true, not_true_eq_false] at c9
    obtain rfl : k = l.length := by omega
    refine exit ?_
    show Code.wp _ _ _ _ _
    refine seq ?_
    refine region ?_
    refine sv (yAsg rfl) ?_
    refine nil ?_
    show Code.wp _ _ _ _ _
    refine wp_ret ?_
    exact retV (res1 rfl (eqI (by rw [hI, List.drop_length]; rfl))) hS.ext
/-- slices.Contains   int,int  -/
theorem c_ContainsI {l : List Int} {x : Int} {v : Value} {w0 : World} (hsl : Sl w0 1 RInt v l) : CV Tryz.prog 123 #[v, .int .i64 x] w0 (.bool (decide (x ∈ l))) := by
  refine enter Tryz.func123 rfl Tryz.ntmps123 rfl ?_
  have hS := St.start w0
  refine seq ?_
  refine region ?_
  refine sv (yAsg rfl) ?_
  refine nil ?_
  show Code.wp _ _ _ _ _
  refine seq ?_
  refine region ?_
  refine sv (yMove rfl) ?_
  refine sv (yMove rfl) ?_
  refine scall Tryz.call140 (.cons rfl (.cons rfl .nil)) (c_IndexI hsl) ?_
  rintro _ w ⟨rfl, hE⟩; replace hS := hS.step hE; clear hE
  refine sv (yGeq rfl rfl) ?_
  refine sv (yAsg rfl) ?_
  refine nil ?_
  show Code.wp _ _ _ _ _
  refine wp_ret ?_
  exact retV (res1 rfl (eqB (by rw [idxF_any _ l 0 (Int.le_refl 0), any_has]))) hS.ext
set_option maxHeartbeats 1000000 in
/-- slices.Compare   int,int  -/
theorem c_CompareI {la lb : List Int} {va vb : Value} {w0 : World} (ha : Sl w0 1 RInt va la) (hb : Sl w0 1 RInt vb lb) : CV Tryz.prog 92 #[va, vb] w0 (.int .i64 (cmpL la lb)) := by
  obtain ⟨aa, ca, rfl, hca, hma, hela⟩ := ha
  obtain ⟨ab, cb, rfl, hcb, hmb, helb⟩ := hb
  refine enter Tryz.func92 rfl Tryz.ntmps92 rfl ?_
  have hS := St.start w0
  refine seq ?_
  refine region ?_
  refine sv (yAsg rfl) ?_
  refine nil ?_
  show Code.wp _ _ _ _ _
  refine seq ?_
  refine seq ?_
  refine region ?_
  refine sv (yMove rfl) ?_
  refine sv (yLen rfl Tryz.underlying34) ?_
  refine sv (yMove rfl) ?_
  refine nil ?_
  show Code.wp _ _ _ _ _
  refine block ?_
  refine loop (fun f w zz => ∃ (k : Nat), f 0 = .slice aa la.length ca ∧ f 1 = .slice ab lb.length cb ∧ f 9 = .slice aa la.length ca ∧ f 10 = .int .i64 (la.length : Int) ∧ f 11 = .int .i64 (k : Int) ∧ StX [] w0 w [] ∧ (k ≤ la.length) ∧ (cmpL la lb = cmpL (la.drop k) (lb.drop k)) ∧ zz = la.length - k) _ ⟨_, rfl, 0, rfl, rfl, rfl, rfl, rfl, hS, (Nat.zero_le _), (rfl), rfl⟩ ?_
  clear hS
  rintro f w _ ⟨k, h0, h1, h9, h10, h11, hS, hk, hI, rfl⟩
  refine seq ?_
  refine region ?_
  refine sv (yLss h11 h10) ?_
  refine nil ?_
  show Code.wp _ _ _ _ _
  refine seq ?_
  refine cond rfl (fun c12 => ?_) (fun c12 => ?_)
  ·
    simp only [Bool.and_eq_true, Bool.or_eq_true, Bool.and_eq_false_iff, Bool.or_eq_false_iff, decide_eq_true_eq, decide_eq_false_iff_not, Bool.not_eq_true, Bool.not_eq_false, Bool.not_not, Bool.not_eq_eq_eq_not, Bool.not_true, Bool.not_false, Bool.false_eq_true, Bool.true_eq_false, ne_eq, Decidable.not_not, not_false_eq_true, not_true_eq_false] at c12
    obtain ⟨x, hxx, hdx⟩ := drop_of (l := la) (k := k) (by omega)
    obtain ⟨bx, ox, csx, hax, hlenx, hcsx, hRx⟩ := hela (k) (by omega)
    obtain rfl : x = la[k] := (List.getElem?_eq_some_iff.1 hxx).2.symm
    generalize la[k] = x at hxx hdx hRx
    obtain ⟨rfl, hxi⟩ := hRx
    refine skip ?_
    show Code.wp _ _ _ _ _
    refine seq ?_
    refine block ?_
    refine seq ?_
    refine region ?_
    refine sv (yMove h11) ?_
    refine sv (yIxa h9 hax h11 Tryz.runUnderlying34 Tryz.sizeOf3 (by omega) (by omega)) ?_
    refine sv (yLd rfl Tryz.isAgg3 ((hcsx.ext hS.ext).one)) ?_
    refine sv (yAsg rfl) ?_
    refine sv (yAsg rfl) ?_
    refine nil ?_
    show Code.wp _ _ _ _ _
    refine seq ?_
    refine seq ?_
    refine region ?_
    refine sv (yMove rfl) ?_
    refine sv (yMove h1) ?_
    refine sv (yLen rfl Tryz.underlying34) ?_
    refine sv (yGeq rfl rfl) ?_
    refine nil ?_
    show Code.wp _ _ _ _ _
    refine cond rfl (fun c19 => ?_) (fun c19 => ?_)
    ·
      simp only [Bool.and_eq_true, Bool.or_eq_true, Bool.and_eq_false_iff, Bool.or_eq_false_iff, decide_eq_true_eq, decide_eq_false_iff_not, Bool.not_eq_true, Bool.not_eq_false, Bool.not_not, Bool.not_eq_eq_eq_not, Bool.not_true, Bool.not_false, Bool.false_eq_true, Bool.true_eq_false, ne_eq, Decidable.not_not, not_false_eq_true, not_true_eq_false] at c19
      refine seq ?_
      refine region ?_
      refine sv (yAsg rfl) ?_
      refine nil ?_
      show Code.wp _ _ _ _ _
      refine wp_ret (thenR (blockR (thenR (thenR (blockR (thenR ?_))))))
      exact retV (res1 rfl (eqI (cmpL_long (k := k) (by omega) (by omega) hI))) hS.ext
    ·
      simp only [Bool.and_eq_true, Bool.or_eq_true, Bool.and_eq_false_iff, Bool.or_eq_false_iff, decide_eq_true_eq, decide_eq_false_iff_not, Bool.not_eq_true, Bool.not_eq_false, Bool.not_not, Bool.not_eq_eq_eq_not, Bool.not_true, Bool.not_false, Bool.false_eq_true, Bool.true_eq_false, ne_eq, Decidable.not_not, not_false_eq_true, not_true_eq_false] at c19
      obtain ⟨y, hxz, hdz⟩ := drop_of (l := lb) (k := k) (by omega)
      obtain ⟨bz, oz, csz, haz, hlenz, hcsz, hRz⟩ := helb (k) (by omega)
      obtain rfl : y = lb[k] := (List.getElem?_eq_some_iff.1 hxz).2.symm
      generalize lb[k] = y at hxz hdz hRz
      obtain ⟨rfl, hyi⟩ := hRz
      refine skip ?_
      show Code.wp _ _ _ _ _
      refine seq ?_
      refine region ?_
      refine sv (yMove h1) ?_
      refine sv (yMove rfl) ?_
      refine sv (yIxa rfl haz rfl Tryz.runUnderlying34 Tryz.sizeOf3 (by omega) (by omega)) ?_
      refine sv (yLd rfl Tryz.isAgg3 ((hcsz.ext hS.ext).one)) ?_
      refine sv (yAsg rfl) ?_
      refine nil ?_
      show Code.wp _ _ _ _ _
      refine seq ?_
      refine region ?_
      refine sv (yMove rfl) ?_
      refine sv (yMove rfl) ?_
      refine scall Tryz.call119 (.cons rfl (.cons rfl .nil)) c_cmp ?_
      rintro _ w ⟨rfl, hE⟩; replace hS := hS.step hE; clear hE
      refine sv (yAsg rfl) ?_
      refine nil ?_
      show Code.wp _ _ _ _ _
      refine seq ?_
      refine region ?_
      refine sv (yMove rfl) ?_
      refine sv (yNeq rfl rfl) ?_
      refine nil ?_
      show Code.wp _ _ _ _ _
      refine cond rfl (fun c28 => ?_) (fun c28 => ?_)
      ·
        simp only [Bool.and_eq_true, Bool.or_eq_true, Bool.and_eq_false_iff, Bool.or_eq_false_iff, decide_eq_true_eq, decide_eq_false_iff_not, Bool.not_eq_true, Bool.not_eq_false, Bool.not_not, Bool.not_eq_eq_eq_not, Bool.not_true, Bool.not_false, Bool.false_eq_true, Bool.true_eq_false, ne_eq, Decidable.not_not, not_false_eq_true, not_true_eq_false] at c28
        refine seq ?_
        refine region ?_
        refine sv (yMove rfl) ?_
        refine sv (yAsg rfl) ?_
        refine nil ?_
        show Code.wp _ _ _ _ _
        refine wp_ret (blockR (thenR (thenR (blockR (thenR ?_)))))
        exact retV (res1 rfl (eqI ((cmpL_drop hxx hxz hI).trans (cmp_hit c28)))) hS.ext
      ·
        simp only [Bool.and_eq_true, Bool.or_eq_true, Bool.and_eq_false_iff, Bool.or_eq_false_iff, decide_eq_true_eq, decide_eq_false_iff_not, Bool.not_eq_true, Bool.not_eq_false, Bool.not_not, Bool.not_eq_eq_eq_not, Bool.not_true, Bool.not_false, Bool.false_eq_true, Bool.true_eq_false, ne_eq, Decidable.not_not, not_false_eq_true, not_true_eq_false] at c28
        refine skip ?_
        show Code.wp _ _ _ _ _
        refine region ?_
        refine sv (yAdd h11 rfl ⟨by omega, by omega⟩) ?_
        refine sv (yMove rfl) ?_
        refine nil ?_
        exact ⟨_, _, rfl, ⟨k + 1, h0, h1, h9, h10, rfl, hS, (by omega), ((cmpL_drop hxx hxz hI).trans (cmp_eq c28)), rfl⟩, by omega⟩
  ·
    simp only [Bool.and_eq_true, Bool.or_eq_true, Bool.and_eq_false_iff, Bool.or_eq_false_iff, decide_eq_true_eq, decide_eq_false_iff_not, Bool.not_eq_true, Bool.not_eq_false, Bool.not_not, Bool.not_eq_eq_eq_not, Bool.not_true, Bool.not_false, Bool.false_eq_true, Bool.true_eq_false, ne_eq, Decidable.not_not, not_false_eq_true, not_true_eq_false] at c12
    obtain rfl : k = la.length := by omega
    refine exit ?_
    show Code.wp _ _ _ _ _
    refine seq ?_
    refine seq ?_
    refine region ?_
    refine sv (yMove h0) ?_
    refine sv (yLen rfl Tryz.underlying34) ?_
    refine sv (yMove h1) ?_
    refine sv (yLen rfl Tryz.underlying34) ?_
    refine sv (yLss rfl rfl) ?_
    refine nil ?_
    show Code.wp _ _ _ _ _
    refine cond rfl (fun c35 => ?_) (fun c35 => ?_)
    ·
      simp only [Bool.and_eq_true, Bool.or_eq_true, Bool.and_eq_false_iff, Bool.or_eq_false_iff, decide_eq_true_eq, decide_eq_false_iff_not, Bool.not_eq_true, Bool.not_eq_false, Bool.not_not, Bool.not_eq_eq_eq_not, Bool.not_true, Bool.not_false, Bool.false_eq_true, Bool.true_eq_false, ne_eq, Decidable.not_not, not_false_eq_true, not_true_eq_false] at c35
      refine seq ?_
      refine region ?_
      refine sv (yAsg rfl) ?_
      refine nil ?_
      show Code.wp _ _ _ _ _
      refine wp_ret (thenR ?_)
      exact retV (res1 rfl (eqI ((cmpL_end hI).trans (if_pos (by omega))))) hS.ext
    ·
      simp only [Bool.and_eq_true, Bool.or_eq_true, Bool.and_eq_false_iff, Bool.or_eq_false_iff, decide_eq_true_eq, decide_eq_false_iff_not, Bool.not_eq_true, Bool.not_eq_false, Bool.not_not, Bool.not_eq_eq_eq_not, Bool.not_true, Bool.not_false, Bool.false_eq_true, Bool.true_eq_false, ne_eq, Decidable.not_not, not_false_eq_true, not_true_eq_false] at c35
      refine skip ?_
      show Code.wp _ _ _ _ _
      refine seq ?_
      refine region ?_
      refine sv (yAsg rfl) ?_
      refine nil ?_
      show Code.wp _ _ _ _ _
      refine wp_ret ?_
      exact retV (res1 rfl (eqI ((cmpL_end hI).trans (if_neg (by omega))))) hS.ext
set_option maxHeartbeats 2000000 in
/-- (*barrage/alarm.board).slots -/
theorem c_bslots {t : Task} {b : Nat} {now : Int} {A : List Int} {va : Value} {w0 : World} (hB : RBoard w0 b t) (hn : 0 ≤ now ∧ now ≤ 200000) (hA : Sl w0 1 RInt va A) (hAm : ∀ i ∈ A, 0 ≤ i ∧ i < t.towns.length) : CV Tryz.prog 93 #[.pointer (some ⟨b, 0, none⟩), .int .i64 now, va] w0 (.int .i64 ((plT t now).slots (chL t) A)) := by
  obtain ⟨a1, c1, a2, c2, a3, c3, a4, c4, a5, c5, T, hb, s1, s2, s3, s4, s5, hok⟩ := id hB.opn
  have hn8 := hok.ntw
  have hf8 := hok.nfl
  have hc4 := hok.nch
  obtain ⟨av, cv, rfl, hcapv, hmxv, helv⟩ := id hA
  refine enter Tryz.func93 rfl Tryz.ntmps93 rfl ?_
  have hS := St.start w0
  refine seq ?_
  refine region ?_
  refine sv (yAsg rfl) ?_
  refine nil ?_
  show Code.wp _ _ _ _ _
  refine seq ?_
  refine region ?_
  refine sv (yAsg rfl) ?_
  refine nil ?_
  show Code.wp _ _ _ _ _
  refine seq ?_
  refine seq ?_
  refine region ?_
  refine sv (yMove rfl) ?_
  refine sv (yNil rfl) ?_
  refine sv (fa141_0 rfl) ?_
  refine sv (fa26_1 rfl) ?_
  refine sv (yLdB rfl Tryz.isAgg22 (hS.ext.get hb) rfl) ?_
  refine sv (yLen rfl Tryz.underlying22) ?_
  refine sv (yMove rfl) ?_
  refine nil ?_
  show Code.wp _ _ _ _ _
  refine block ?_
  refine loop (fun f w zz => ∃ (c : Nat), f 0 = .pointer (some ⟨b, 0, none⟩) ∧ f 1 = .int .i64 now ∧ f 2 = .slice av A.length cv ∧ f 7 = .int .i64 (slK t now A c) ∧ f 17 = .slice a1 t.chans.length c1 ∧ f 18 = .int .i64 (t.chans.length : Int) ∧ f 19 = .int .i64 (c : Int) ∧ StX [] w0 w [] ∧ (c ≤ t.chans.length) ∧ zz = t.chans.length - c) _ ⟨_, rfl, 0, rfl, rfl, rfl, rfl, rfl, rfl, rfl, hS, (Nat.zero_le _), rfl⟩ ?_
  clear hS
  rintro f w _ ⟨c, h0, h1, h2, h7, h17, h18, h19, hS, hc, rfl⟩
  refine seq ?_
  refine region ?_
  refine sv (yLss h19 h18) ?_
  refine nil ?_
  show Code.wp _ _ _ _ _
  refine seq ?_
  refine cond rfl (fun c20 => ?_) (fun c20 => ?_)
  ·
    simp only [Bool.and_eq_true, Bool.or_eq_true, Bool.and_eq_false_iff, Bool.or_eq_false_iff, decide_eq_true_eq, decide_eq_false_iff_not, Bool.not_eq_true, Bool.not_eq_false, Bool.not_not, Bool.not_eq_eq_eq_not, Bool.not_true, Bool.not_false, Bool.false_eq_true, Bool.true_eq_false, ne_eq, Decidable.not_not, not_false_eq_true, not_true_eq_false] at c20
    have hcl : c < t.chans.length := by omega
    have hcb : 0 ≤ (c : Int) ∧ (c : Int) < t.chans.length := by omega
    have hsb := slK_bd hok hn.1 A c hc
    obtain ⟨bc, oc, csc, hac, hlc, hcsc, hRc, -⟩ := sl_at s1 (chn_i (t := t) hcb)
    obtain ⟨rfl, -⟩ := hRc
    have hco := chan_ok hok hcb
    refine skip ?_
    show Code.wp _ _ _ _ _
    refine seq ?_
    refine block ?_
    refine seq ?_
    refine region ?_
    refine sv (yMove h19) ?_
    refine sv (yIxa h17 hac h19 Tryz.runUnderlying22 Tryz.sizeOf41 (by omega) (by omega)) ?_
    refine sv (yLdA rfl Tryz.isAgg41 Tryz.sizeOf41 (hcsc.ext hS.ext) rfl) ?_
    refine salloc hS Tryz.zeroValue41 rfl ?_; clear hS; intro b9 w hS
    refine sv (yAsg rfl) ?_
    refine sst hS rfl rfl Tryz.sizeOf41 rfl rfl rfl rfl ?_; clear hS; intro w hS
    refine nil ?_
    show Code.wp _ _ _ _ _
    refine seq ?_
    refine region ?_
    refine sv (yAsg rfl) ?_
    refine nil ?_
    show Code.wp _ _ _ _ _
    refine seq ?_
    refine seq ?_
    refine region ?_
    refine sv (yMove h2) ?_
    refine sv (yLen rfl Tryz.underlying34) ?_
    refine sv (yMove rfl) ?_
    refine nil ?_
    show Code.wp _ _ _ _ _
    refine block ?_
    refine loop (fun f w zz => ∃ (k : Nat), f 0 = .pointer (some ⟨b, 0, none⟩) ∧ f 1 = .int .i64 now ∧ f 2 = .slice av A.length cv ∧ f 7 = .int .i64 (slK t now A c) ∧ f 17 = .slice a1 t.chans.length c1 ∧ f 18 = .int .i64 (t.chans.length : Int) ∧ f 19 = .int .i64 (c : Int) ∧ f 8 = .int .i64 (c : Int) ∧ f 9 = .pointer (some ⟨b9, 0, none⟩) ∧ f 10 = .int .i64 ((plT t now).cnt (c : Int) (A.take k)) ∧ f 24 = .slice av A.length cv ∧ f 25 = .int .i64 (A.length : Int) ∧ f 26 = .int .i64 (k : Int) ∧ StX [] w0 w [blk b9 (chanC (chn t (c : Int))) 41] ∧ (k ≤ A.length) ∧ zz = A.length - k) _ ⟨_, rfl, 0, h0, h1, h2, h7, h17, h18, h19, rfl, rfl, rfl, rfl, rfl, rfl, hS, (Nat.zero_le _), rfl⟩ ?_
    clear hS
    rintro f w _ ⟨k, h0, h1, h2, h7, h17, h18, h19, h8, h9, h10, h24, h25, h26, hS, hk, rfl⟩
    refine seq ?_
    refine region ?_
    refine sv (yLss h26 h25) ?_
    refine nil ?_
    show Code.wp _ _ _ _ _
    refine seq ?_
    refine cond rfl (fun c27 => ?_) (fun c27 => ?_)
    ·
      simp only [Bool.and_eq_true, Bool.or_eq_true, Bool.and_eq_false_iff, Bool.or_eq_false_iff, decide_eq_true_eq, decide_eq_false_iff_not, Bool.not_eq_true, Bool.not_eq_false, Bool.not_not, Bool.not_eq_eq_eq_not, Bool.not_true, Bool.not_false, Bool.false_eq_true, Bool.true_eq_false, ne_eq, Decidable.not_not, not_false_eq_true, not_true_eq_false] at c27
      obtain ⟨i, hxv, hdv⟩ := drop_of (l := A) (k := k) (by omega)
      obtain ⟨bv, ov, csv, hav, hlenv, hcsv, hRv⟩ := helv (k) (by omega)
      obtain rfl : i = A[k] := (List.getElem?_eq_some_iff.1 hxv).2.symm
      generalize A[k] = i at hxv hdv hRv
      obtain ⟨rfl, hiI⟩ := hRv
      have hib := hAm i (List.mem_of_getElem? hxv)
      obtain ⟨bt, ot, cst, hat, hlt, hcst, hRt, -⟩ := sl_at s2 (twn_i (t := t) hib)
      obtain ⟨dvt, rfl, -, -, -, -, hslt, -⟩ := hRt
      have hto := town_ok hok hib
      have htl := hto.lead
      obtain ⟨ad, cd, rfl, -⟩ := id hslt
      have hcn := cnt_bd (plT_late t hn.1) (c : Int) (A.take k)
      have hlb : (plT t now).latest i (c : Int) = latestF t i (c : Int) := rfl
      refine skip ?_
      show Code.wp _ _ _ _ _
      refine seq ?_
      refine block ?_
      refine seq ?_
      refine region ?_
      refine sv (yIxa h24 hav h26 Tryz.runUnderlying34 Tryz.sizeOf3 (by omega) (by omega)) ?_
      refine sv (yLd rfl Tryz.isAgg3 ((hcsv.ext hS.ext).one)) ?_
      refine sv (yAsg rfl) ?_
      refine nil ?_
      show Code.wp _ _ _ _ _
      refine seq ?_
      refine region ?_
      refine sv (yMove h0) ?_
      refine sv (yNil rfl) ?_
      refine sv (fa141_0 rfl) ?_
      refine sv (fa26_2 rfl) ?_
      refine sv (yLdB rfl Tryz.isAgg23 (hS.ext.get hb) rfl) ?_
      refine sv (yMove rfl) ?_
      refine sv (yIxa rfl hat rfl Tryz.runUnderlying23 Tryz.sizeOf36 (by omega) (by omega)) ?_
      refine sv (fa36_4 rfl) ?_
      refine sv (yLd rfl Tryz.isAgg34 ((hcst.ext hS.ext).at (j := 4) rfl)) ?_
      refine sv (yMove h8) ?_
      refine scall Tryz.call123 (.cons rfl (.cons rfl .nil)) (c_ContainsI (hslt.ext RInt.stays hS.ext)) ?_
      rintro _ w ⟨rfl, hE⟩; replace hS := hS.step hE; clear hE
      refine nil ?_
      show Code.wp _ _ _ _ _
      refine cond rfl (fun c40 => ?_) (fun c40 => ?_)
      ·
        simp only [Bool.and_eq_true, Bool.or_eq_true, Bool.and_eq_false_iff, Bool.or_eq_false_iff, decide_eq_true_eq, decide_eq_false_iff_not, Bool.not_eq_true, Bool.not_eq_false, Bool.not_not, Bool.not_eq_eq_eq_not, Bool.not_true, Bool.not_false, Bool.false_eq_true, Bool.true_eq_false, ne_eq, Decidable.not_not, not_false_eq_true, not_true_eq_false] at c40
        have hin : (c : Int) ∈ (plT t now).chans i := c40
        have hlt : max ((plT t now).cnt (c : Int) (A.take k)) ((plT t now).latest i (c : Int) - (plT t now).now + 1) = max ((plT t now).cnt (c : Int) (A.take k)) (latestF t i (c : Int) - now + 1) := rfl
        have hla := act_bd hok hib
        have hll : latestF t i (c : Int) = min 200000 (actF t i - (chn t (c : Int)).delay) := rfl
        have hdel := hco.1
        refine region ?_
        refine sv (yMove h10) ?_
        refine sv (yMove h0) ?_
        refine sv (yMove rfl) ?_
        refine sv (yMove h8) ?_
        refine scall Tryz.call104 (.cons rfl (.cons rfl (.cons rfl .nil))) (c_latest (hB.ext hS.ext) hib hcb) ?_
        rintro _ w ⟨rfl, hE⟩; replace hS := hS.step hE; clear hE
        refine sv (yMove h1) ?_
        refine sv (ySub rfl rfl ⟨by omega, by omega⟩) ?_
        refine sv (yAdd rfl rfl ⟨by omega, by omega⟩) ?_
        refine sv (yMax rfl rfl) ?_
        refine sv (yAsg rfl) ?_
        refine nil ?_
        show Code.wp _ _ _ _ _
        refine region ?_
        refine sv (yAdd h26 rfl ⟨by omega, by omega⟩) ?_
        refine sv (yMove rfl) ?_
        refine nil ?_
        exact ⟨_, _, rfl, ⟨k + 1, h0, h1, h2, h7, h17, h18, h19, h8, h9, (rfl.trans (congrArg (Value.int .i64) (by rw [take_snoc hxv, cnt_snoc, if_pos hin, hlt]))), h24, h25, rfl, hS, (by omega), rfl⟩, by omega⟩
      ·
        simp only [Bool.and_eq_true, Bool.or_eq_true, Bool.and_eq_false_iff, Bool.or_eq_false_iff, decide_eq_true_eq, decide_eq_false_iff_not, Bool.not_eq_true, Bool.not_eq_false, Bool.not_not, Bool.not_eq_eq_eq_not, Bool.not_true, Bool.not_false, Bool.false_eq_true, Bool.true_eq_false, ne_eq, Decidable.not_not, not_false_eq_true, not_true_eq_false] at c40
        have hout : ¬ (c : Int) ∈ (plT t now).chans i := c40
        refine skip ?_
        show Code.wp _ _ _ _ _
        refine region ?_
        refine sv (yAdd h26 rfl ⟨by omega, by omega⟩) ?_
        refine sv (yMove rfl) ?_
        refine nil ?_
        exact ⟨_, _, rfl, ⟨k + 1, h0, h1, h2, h7, h17, h18, h19, h8, h9, (h10.trans (congrArg (Value.int .i64) (by rw [take_snoc hxv, cnt_snoc, if_neg hout]))), h24, h25, rfl, hS, (by omega), rfl⟩, by omega⟩
    ·
      simp only [Bool.and_eq_true, Bool.or_eq_true, Bool.and_eq_false_iff, Bool.or_eq_false_iff, decide_eq_true_eq, decide_eq_false_iff_not, Bool.not_eq_true, Bool.not_eq_false, Bool.not_not, Bool.not_eq_eq_eq_not, Bool.not_true, Bool.not_false, Bool.false_eq_true, Bool.true_eq_false, ne_eq, Decidable.not_not, not_false_eq_true, not_true_eq_false] at c27
      obtain rfl : k = A.length := by omega
      rw [List.take_length] at h10
      have hcn := cnt_bd (plT_late t hn.1) (c : Int) A
      have hpr := prod_bd hcn hco.2
      refine exit ?_
      show Code.wp _ _ _ _ _
      refine region ?_
      refine sv (yMove h7) ?_
      refine sv (yMove h10) ?_
      refine sv (fa41_2 h9) ?_
      refine sv (yLdB rfl Tryz.isAgg3 (hS.at _) rfl) ?_
      refine sv (yMul rfl rfl ⟨by omega, by omega⟩) ?_
      refine sv (yAdd rfl rfl ⟨by omega, by omega⟩) ?_
      refine sv (yAsg rfl) ?_
      refine nil ?_
      show Code.wp _ _ _ _ _
      refine region ?_
      refine sv (yAdd h19 rfl ⟨by omega, by omega⟩) ?_
      refine sv (yMove rfl) ?_
      refine nil ?_
      exact ⟨_, _, rfl, ⟨c + 1, h0, h1, h2, (rfl.trans (congrArg (Value.int .i64) (slK_succ now A hcl).symm)), h17, h18, rfl, (hS.sub (List.nil_sublist _)), (by omega), rfl⟩, by omega⟩
  ·
    simp only [Bool.and_eq_true, Bool.or_eq_true, Bool.and_eq_false_iff, Bool.or_eq_false_iff, decide_eq_true_eq, decide_eq_false_iff_not, Bool.not_eq_true, Bool.not_eq_false, Bool.not_not, Bool.not_eq_eq_eq_not, Bool.not_true, Bool.not_false, Bool.false_eq_true, Bool.true_eq_false, ne_eq, Decidable.not_not, not_false_eq_true, not_true_eq_false] at c20
    obtain rfl : c = t.chans.length := by omega
    refine exit ?_
    show Code.wp _ _ _ _ _
    refine seq ?_
    refine region ?_
    refine sv (yMove h7) ?_
    refine sv (yAsg rfl) ?_
    refine nil ?_
    show Code.wp _ _ _ _ _
    refine wp_ret ?_
    exact retV (res1 rfl (eqI (slK_end t now A).symm)) hS.ext
end Go.Proofs.YtmoilbakmlekbaaGreatDoor

/- part Aw43 -/
namespace Go.Proofs.YtmoilbakmlekbaaGreatDoor
open Go Bx
set_option maxHeartbeats 4000000 in
/-- barrage/alarm.Blocked -/
theorem c_Blocked {t : Task} {hv nv fv : Value} {now : Int} {w0 : World} (hg : Glb w0) (h : RTask w0 [.int .i64 t.polders, hv, nv, fv] t) : CE Tryz.prog 39 #[.agg [.int .i64 t.polders, hv, nv, fv].toArray, .int .i64 now] w0 (fun u w' => ∃ lv, u = .tuple #[lv, .int .i64 (blkR t now).2] ∧ Sl w' 1 RInt lv (blkR t now).1 ∧ Ext w0 w') := by
  obtain ⟨hv', nv', fv', he0, hpol, hsh, hsn, hsf⟩ := id h
  obtain ⟨rfl, rfl, rfl⟩ : hv' = hv ∧ nv' = nv ∧ fv' = fv := by simpa [eq_comm] using he0
  obtain ⟨a1, cap1, rfl, hcap1, hmx1, hel1⟩ := id hsh
  obtain ⟨a2, cap2, rfl, hcap2, hmx2, hel2⟩ := id hsn
  obtain ⟨a3, cap3, rfl, hcap3, hmx3, hel3⟩ := id hsf
  refine enter Tryz.func39 rfl Tryz.ntmps39 rfl ?_
  have hS := St.start w0
  refine seq ?_
  refine region ?_
  refine sbox hS rfl rfl ?_; clear hS; intro b2 w hS
  refine sv (yAsg rfl) ?_
  refine sv (yAsg rfl) ?_
  refine nil ?_
  show Code.wp _ _ _ _ _
  refine scope ?_
  refine seq ?_
  refine region ?_
  refine sv (yLdBA rfl Tryz.isAgg26 Tryz.sizeOf26 (hS.at _) rfl rfl) ?_
  refine sv (yMove rfl) ?_
  refine scall Tryz.call47 (.cons rfl (.cons rfl .nil)) (c_at (hg.ext hS.ext) (h.ext hS.ext)) ?_
  rintro _ w (⟨he, rfl, hE⟩ | ⟨he, bb, b1, bz, rfl, hM⟩)
  ·
    replace hS := hS.step hE; clear hE
    refine sv (yMove rfl) ?_
    refine sv (yExt rfl rfl) ?_
    refine sv (yExt rfl rfl) ?_
    refine sv (yAsg rfl) ?_
    refine sv (yAsg rfl) ?_
    refine nil ?_
    show Code.wp _ _ _ _ _
    refine seq ?_
    refine seq ?_
    refine region ?_
    refine sv (yMove rfl) ?_
    refine sv (yNeq rfl rfl) ?_
    refine nil ?_
    show Code.wp _ _ _ _ _
    refine cond rfl (fun c20 => ?_) (fun c20 => ?_)
    ·
      simp only [Bool.and_eq_true, Bool.or_eq_true, Bool.and_eq_false_iff, Bool.or_eq_false_iff, decide_eq_true_eq, decide_eq_false_iff_not, Bool.not_eq_true, Bool.not_eq_false, Bool.not_not, Bool.not_eq_eq_eq_not, Bool.not_true, Bool.not_false, Bool.false_eq_true, Bool.true_eq_false, ne_eq, Decidable.not_not, not_false_eq_true, not_true_eq_false] at c20
      refine seq ?_
      refine region ?_
      refine sv (yMove rfl) ?_
      refine sv (yAsg rfl) ?_
      refine sv (yAsg rfl) ?_
      refine nil ?_
      show Code.wp _ _ _ _ _
      refine wp_ret (thenR (scopeR ?_))
      refine retQ (res2 rfl rfl rfl) ?_
      have hf : blkR t now = ([], atE t now) := if_pos he
      rw [hf]
      exact ⟨_, rfl, Sl.nil, hS.ext⟩
    ·
      simp only [Bool.and_eq_true, Bool.or_eq_true, Bool.and_eq_false_iff, Bool.or_eq_false_iff, decide_eq_true_eq, decide_eq_false_iff_not, Bool.not_eq_true, Bool.not_eq_false, Bool.not_not, Bool.not_eq_eq_eq_not, Bool.not_true, Bool.not_false, Bool.false_eq_true, Bool.true_eq_false, ne_eq, Decidable.not_not, not_false_eq_true, not_true_eq_false] at c20
      exact absurd c20 he
  ·
    replace hS := hS.call hM; clear hM
    obtain ⟨hok, hn⟩ := atE_ok he
    replace hS : StX [] w0 w [blk bb [.int .i64 t.polders, .slice a1 t.chans.length cap1, .slice a2 t.towns.length cap2, .slice a3 t.floods.length cap3, .slice (some ⟨b1, 0, none⟩) t.towns.length t.towns.length, .slice (some ⟨bz, 0, none⟩) t.towns.length t.towns.length] 141, blk b1 ((arrS t).flatMap spanC) 44, blk bz ((arrN t).flatMap Bx.encI) 3, blk b2 [.int .i64 t.polders, .slice a1 t.chans.length cap1, .slice a2 t.towns.length cap2, .slice a3 t.floods.length cap3] 26] := hS
    have hB : RBoard w bb t := board_mk (hS.at bb) (h.ext hS.ext) hok (hS.at b1) (hS.at bz)
    have hE0 := hS.ext
    obtain ⟨w0, hwq⟩ : ∃ wq, wq = w := ⟨w, rfl⟩
    rw [← hwq] at hE0 hB
    replace hS : StX [] w0 w [] := by rw [hwq]; exact St.start w
    clear hwq
    have hwl := wetL_len t
    have hn8 := hok.ntw
    refine sv (yMove rfl) ?_
    refine sv (yExt rfl rfl) ?_
    refine sv (yExt rfl rfl) ?_
    refine sv (yAsg rfl) ?_
    refine sv (yAsg rfl) ?_
    refine nil ?_
    show Code.wp _ _ _ _ _
    refine seq ?_
    refine seq ?_
    refine region ?_
    refine sv (yMove rfl) ?_
    refine sv (yNeq rfl rfl) ?_
    refine nil ?_
    show Code.wp _ _ _ _ _
    refine cond rfl (fun c20 => ?_) (fun c20 => ?_)
    ·
      exact absurd c20 (by decide)
    ·
      refine skip ?_
      show Code.wp _ _ _ _ _
      refine seq ?_
      refine region ?_
      refine sv (yMove rfl) ?_
      refine scall Tryz.call48 (.cons rfl .nil) (c_wet (hB.ext hS.ext)) ?_
      rintro tv w hM; replace hS := hS.call1 hM; clear hM
      obtain ⟨aw, cw, rfl⟩ := row_shape (hS.row tv)
      have hpw := pow_cast (wetL t).length
      have hp8 := pow_le8 (n := (wetL t).length) (by omega)
      refine sv (yAsg rfl) ?_
      refine nil ?_
      show Code.wp _ _ _ _ _
      refine seq ?_
      refine label ?_
      show Code.wp _ _ _ _ _
      refine seq ?_
      refine seq ?_
      refine region ?_
      refine sv (yAsg rfl) ?_
      refine nil ?_
      show Code.wp _ _ _ _ _
      refine block ?_
      refine loop (fun f w zz => ∃ (b : Nat) (af : Option Addr) (cf : Nat) (fo : Option (List Int)), f 1 = .int .i64 now ∧ f 4 = .slice af (fo.getD []).length cf ∧ f 6 = .pointer (some ⟨bb, 0, none⟩) ∧ f 7 = .slice aw (wetL t).length cw ∧ f 8 = .int .i64 ((b : Int) + 1) ∧ StX [] w0 w [rowI (.slice af (fo.getD []).length cf) 3 1 (fo.getD []).length ((fo.getD []).flatMap Bx.encI), rowI (.slice aw (wetL t).length cw) 3 1 ((wetL t)).length (((wetL t)).flatMap Bx.encI)] ∧ (b ≤ 2 ^ (wetL t).length - 1) ∧ (fo = bestL (blkP t now) ((bitSets (wetL t)).take b)) ∧ (af = none ↔ fo = none) ∧ zz = 2 ^ (wetL t).length - b) _ ⟨_, rfl, 0, _, _, none, rfl, rfl, rfl, rfl, (rfl.trans (congrArg (Value.int .i64) (by simp))), (hS.nilrow 3 1), (Nat.zero_le _), (rfl), (⟨fun _ => rfl, fun _ => rfl⟩), rfl⟩ ?_
      clear hS
      rintro f w _ ⟨b, af, cf, fo, h1, h4, h6, h7, h8, hS, hb, hfo, hfa, rfl⟩
      have hfs : ∀ g, fo = some g → g.Sublist (wetL t) := fun g hg2 => (best_ne (hfo.symm.trans hg2)).2
      have hfl := getD_len hfs
      refine seq ?_
      refine seq ?_
      refine region ?_
      refine sv (yMove h8) ?_
      refine sv (yMove h7) ?_
      refine sv (yLen rfl Tryz.underlying34) ?_
      refine sv (yShlI rfl rfl (by omega) (by omega) ⟨by rw [hpw]; omega, by rw [hpw]; omega⟩) ?_
      refine sv (yLss rfl rfl) ?_
      refine nil ?_
      show Code.wp _ _ _ _ _
      refine cond rfl (fun c28 => ?_) (fun c28 => ?_)
      ·
        simp only [Bool.and_eq_true, Bool.or_eq_true, Bool.and_eq_false_iff, Bool.or_eq_false_iff, decide_eq_true_eq, decide_eq_false_iff_not, Bool.not_eq_true, Bool.not_eq_false, Bool.not_not, Bool.not_eq_eq_eq_not, Bool.not_true, Bool.not_false, Bool.false_eq_true, Bool.true_eq_false, ne_eq, Decidable.not_not, not_false_eq_true, not_true_eq_false] at c28
        rw [hpw] at c28
        have hbl : b < 2 ^ (wetL t).length - 1 := by omega
        have hbg := bitSets_get hbl
        refine skip ?_
        show Code.wp _ _ _ _ _
        refine seq ?_
        refine block ?_
        refine seq ?_
        refine region ?_
        refine sv (yAsg rfl) ?_
        refine nil ?_
        show Code.wp _ _ _ _ _
        refine seq ?_
        refine seq ?_
        refine region ?_
        refine sv (yMove h7) ?_
        refine sv (yLen rfl Tryz.underlying34) ?_
        refine sv (yMove rfl) ?_
        refine nil ?_
        show Code.wp _ _ _ _ _
        refine block ?_
        refine loop (fun f w zz => ∃ (k : Nat) (uv : Value), f 1 = .int .i64 now ∧ f 4 = .slice af (fo.getD []).length cf ∧ f 6 = .pointer (some ⟨bb, 0, none⟩) ∧ f 7 = .slice aw (wetL t).length cw ∧ f 8 = .int .i64 ((b : Int) + 1) ∧ f 9 = uv ∧ f 31 = .slice aw (wetL t).length cw ∧ f 32 = .int .i64 ((wetL t).length : Int) ∧ f 33 = .int .i64 (k : Int) ∧ StX [] w0 w [rowI (uv) 3 1 (subsB ((wetL t).take k) (b + 1)).length ((subsB ((wetL t).take k) (b + 1)).flatMap Bx.encI), rowI (.slice af (fo.getD []).length cf) 3 1 (fo.getD []).length ((fo.getD []).flatMap Bx.encI), rowI (.slice aw (wetL t).length cw) 3 1 ((wetL t)).length (((wetL t)).flatMap Bx.encI)] ∧ (k ≤ (wetL t).length) ∧ zz = (wetL t).length - k) _ ⟨_, rfl, 0, _, h1, h4, h6, h7, h8, rfl, rfl, rfl, rfl, (hS.nilrow 3 1), (Nat.zero_le _), rfl⟩ ?_
        clear hS
        rintro f w _ ⟨k, uv, h1, h4, h6, h7, h8, h9, h31, h32, h33, hS, hk, rfl⟩
        refine seq ?_
        refine region ?_
        refine sv (yLss h33 h32) ?_
        refine nil ?_
        show Code.wp _ _ _ _ _
        refine seq ?_
        refine cond rfl (fun c34 => ?_) (fun c34 => ?_)
        ·
          simp only [Bool.and_eq_true, Bool.or_eq_true, Bool.and_eq_false_iff, Bool.or_eq_false_iff, decide_eq_true_eq, decide_eq_false_iff_not, Bool.not_eq_true, Bool.not_eq_false, Bool.not_not, Bool.not_eq_eq_eq_not, Bool.not_true, Bool.not_false, Bool.false_eq_true, Bool.true_eq_false, ne_eq, Decidable.not_not, not_false_eq_true, not_true_eq_false] at c34
          obtain ⟨x, hxw, -⟩ := drop_of (l := (wetL t)) (k := k) (by omega)
          obtain ⟨go, hao, -⟩ := row_get (hS.row (.slice aw (wetL t).length cw)) (by omega)
          have hbd := bit_div b k
          have hsl := subsB_len ((wetL t).take k) (b + 1)
          have htl : ((wetL t).take k).length ≤ k := by simp; omega
          have hdv : (b + 1) / 2 ^ k ≤ b + 1 := Nat.div_le_self _ _
          refine skip ?_
          show Code.wp _ _ _ _ _
          refine seq ?_
          refine block ?_
          refine seq ?_
          refine region ?_
          refine sv (yMove h33) ?_
          refine sv (yIxa h31 hao h33 Tryz.runUnderlying34 Tryz.sizeOf3 (by omega) (by omega)) ?_
          refine sv (yLd rfl Tryz.isAgg3 ((flat_cells (enc := Bx.encI) encI_len (row_at (hS.row (.slice aw (wetL t).length cw)) hao (by omega)) hxw).one)) ?_
          refine sv (yAsg rfl) ?_
          refine sv (yAsg rfl) ?_
          refine nil ?_
          show Code.wp _ _ _ _ _
          refine seq ?_
          refine region ?_
          refine sv (yMove h8) ?_
          refine sv (yMove rfl) ?_
          refine sv (yShrI rfl rfl (by omega) (by omega)) ?_
          refine sv (yAnd1 rfl rfl (bit_bd (by omega))) ?_
          refine sv (yEql rfl rfl) ?_
          refine nil ?_
          show Code.wp _ _ _ _ _
          refine cond rfl (fun c42 => ?_) (fun c42 => ?_)
          ·
            simp only [Bool.and_eq_true, Bool.or_eq_true, Bool.and_eq_false_iff, Bool.or_eq_false_iff, decide_eq_true_eq, decide_eq_false_iff_not, Bool.not_eq_true, Bool.not_eq_false, Bool.not_not, Bool.not_eq_eq_eq_not, Bool.not_true, Bool.not_false, Bool.false_eq_true, Bool.true_eq_false, ne_eq, Decidable.not_not, not_false_eq_true, not_true_eq_false] at c42
            rw [hbd, bit_mod] at c42
            have hbk := c42
            refine region ?_
            refine sv (yMove h9) ?_
            refine sv (yMove rfl) ?_
            refine sbslice hS Tryz.underlying34 Tryz.sizeOf3 rfl Tryz.zeroValue3 rfl (.cons rfl rfl .nil) rfl ?_; clear hS; intro b45 w hS
            refine sapp (bytes := 8) (size := 1) (v := uv) (m := 1) hS rfl rfl Tryz.underlying34 ti3 rfl rfl rfl rfl (by decide) (blk_cells (hS.at _)) rfl rfl (by omega) (by omega) ?_; clear hS; intro v46 w hS
            refine sv (yAsg rfl) ?_
            refine nil ?_
            show Code.wp _ _ _ _ _
            refine region ?_
            refine sv (yAdd h33 rfl ⟨by omega, by omega⟩) ?_
            refine sv (yMove rfl) ?_
            refine nil ?_
            exact ⟨_, _, rfl, ⟨k + 1, _, h1, h4, h6, h7, h8, rfl, h31, h32, rfl, (by rw [subsB_step hxw, if_pos hbk, List.flatMap_append, List.length_append]; exact hS.sub (.cons _ (List.Sublist.refl _))), (by omega), rfl⟩, by omega⟩
          ·
            simp only [Bool.and_eq_true, Bool.or_eq_true, Bool.and_eq_false_iff, Bool.or_eq_false_iff, decide_eq_true_eq, decide_eq_false_iff_not, Bool.not_eq_true, Bool.not_eq_false, Bool.not_not, Bool.not_eq_eq_eq_not, Bool.not_true, Bool.not_false, Bool.false_eq_true, Bool.true_eq_false, ne_eq, Decidable.not_not, not_false_eq_true, not_true_eq_false] at c42
            rw [hbd, bit_mod] at c42
            have hbk := c42
            refine skip ?_
            show Code.wp _ _ _ _ _
            refine region ?_
            refine sv (yAdd h33 rfl ⟨by omega, by omega⟩) ?_
            refine sv (yMove rfl) ?_
            refine nil ?_
            exact ⟨_, _, rfl, ⟨k + 1, _, h1, h4, h6, h7, h8, h9, h31, h32, rfl, (by rw [subsB_step hxw, if_neg hbk, List.append_nil]; exact hS), (by omega), rfl⟩, by omega⟩
        ·
          simp only [Bool.and_eq_true, Bool.or_eq_true, Bool.and_eq_false_iff, Bool.or_eq_false_iff, decide_eq_true_eq, decide_eq_false_iff_not, Bool.not_eq_true, Bool.not_eq_false, Bool.not_not, Bool.not_eq_eq_eq_not, Bool.not_true, Bool.not_false, Bool.false_eq_true, Bool.true_eq_false, ne_eq, Decidable.not_not, not_false_eq_true, not_true_eq_false] at c34
          obtain rfl : k = (wetL t).length := by omega
          rw [List.take_length] at hS
          obtain ⟨ag, cg, rfl⟩ := row_shape (hS.row uv)
          have hne := bit_set (l := (wetL t)) (b := b + 1) (by omega) (by omega)
          have hsl := subsB_len (wetL t) (b + 1)
          have hag : ag ≠ none := fun hh => by obtain ⟨g, e, -⟩ := row_get (hS.row (.slice ag (subsB (wetL t) (b + 1)).length cg)) (List.length_pos_iff.2 hne); rw [hh] at e; cases e
          have hbe := betB_eq (fo := fo) (s := subsB (wetL t) (b + 1)) (isNone_dec hfa) rfl rfl
          refine exit ?_
          show Code.wp _ _ _ _ _
          refine seq ?_
          refine region ?_
          refine sv (yMove h4) ?_
          refine sv (yEqNil rfl rfl Tryz.underlying34) ?_
          refine sv (yMove rfl) ?_
          refine sg rfl rfl rfl (fun g => (yMove h9)) (fun v51 g51 => ?_)
          refine sg rfl rfl rfl (fun g => (yLen (g51.1 g) Tryz.underlying34)) (fun v52 g52 => ?_)
          refine sg rfl rfl rfl (fun g => (yMove h4)) (fun v53 g53 => ?_)
          refine sg rfl rfl rfl (fun g => (yLen (g53.1 g) Tryz.underlying34)) (fun v54 g54 => ?_)
          refine sg rfl rfl rfl (fun g => (yLss (g52.1 g) (g54.1 g))) (fun v55 g55 => ?_)
          refine sv (yOr rfl rfl (fun hB => (g55.1 hB))) ?_
          refine sv (yMove rfl) ?_
          refine sg rfl rfl rfl (fun g => (yMove h9)) (fun v58 g58 => ?_)
          refine sg rfl rfl rfl (fun g => (yLen (g58.1 g) Tryz.underlying34)) (fun v59 g59 => ?_)
          refine sg rfl rfl rfl (fun g => (yMove h4)) (fun v60 g60 => ?_)
          refine sg rfl rfl rfl (fun g => (yLen (g60.1 g) Tryz.underlying34)) (fun v61 g61 => ?_)
          refine sg rfl rfl rfl (fun g => (yEql (g59.1 g) (g61.1 g))) (fun v62 g62 => ?_)
          refine sg rfl rfl rfl (fun g => (yMove (g62.1 g))) (fun v63 g63 => ?_)
          refine sgg rfl rfl g63 (fun g => (yMove h9)) (fun v64 g64 => ?_)
          refine sgg rfl rfl g63 (fun g => (yMove h4)) (fun v65 g65 => ?_)
          refine sggc hS rfl rfl g63 Tryz.call92 (fun g => (.cons (g64.1 g) (.cons (g65.1 g) .nil))) (fun g => (c_CompareI (sl_ints (hS.row (.slice ag (subsB (wetL t) (b + 1)).length cg)) rfl (fun x hx => by have := wet_mem ((subsB_sub _ _).subset hx); constructor <;> omega)) (sl_ints (hS.row (.slice af (fo.getD []).length cf)) rfl (fun x hx => by have := wet_mem (getD_mem hfs x hx); constructor <;> omega)))) ?_; clear hS; intro v66 w hS g66
          refine sgg rfl rfl g63 (fun g => (yLss (g66.1 g) rfl)) (fun v67 g67 => ?_)
          refine sg rfl rfl rfl (fun g => (yAnd (g63.1 g) (fun hB => (g67.1 ⟨g, hB⟩)) rfl)) (fun v68 g68 => ?_)
          refine sv (yOr rfl rfl (fun hB => (g68.1 hB))) ?_
          refine sv (yAsg rfl) ?_
          refine nil ?_
          show Code.wp _ _ _ _ _
          refine seq ?_
          refine seq ?_
          refine region ?_
          refine sv (yMove rfl) ?_
          refine sv (yNot rfl) ?_
          refine sv (yMove rfl) ?_
          refine sg rfl rfl rfl (fun g => (yMove h6)) (fun v73 g73 => ?_)
          refine sg rfl rfl rfl (fun g => (yMove h1)) (fun v74 g74 => ?_)
          refine sg rfl rfl rfl (fun g => (yMove h9)) (fun v75 g75 => ?_)
          refine sgc hS rfl rfl rfl Tryz.call93 (fun g => (.cons (g73.1 g) (.cons (g74.1 g) (.cons (g75.1 g) .nil)))) (fun g => (c_bslots (hB.ext hS.ext) hn (sl_ints (hS.row (.slice ag (subsB (wetL t) (b + 1)).length cg)) rfl (fun x hx => by have := wet_mem ((subsB_sub _ _).subset hx); constructor <;> omega)) (fun x hx => wet_mem ((subsB_sub _ _).subset hx)))) ?_; clear hS; intro v76 w hS g76
          refine sg rfl rfl rfl (fun g => (yMove h9)) (fun v77 g77 => ?_)
          refine sg rfl rfl rfl (fun g => (yLen (g77.1 g) Tryz.underlying34)) (fun v78 g78 => ?_)
          refine sg rfl rfl rfl (fun g => (yGeq (g76.1 g) (g78.1 g))) (fun v79 g79 => ?_)
          refine sv (yOr rfl rfl (fun hB => (g79.1 hB))) ?_
          refine nil ?_
          show Code.wp _ _ _ _ _
          refine cond rfl (fun c80 => ?_) (fun c80 => ?_)
          ·
            refine exit ?_
            show Code.wp _ _ _ _ _
            refine region ?_
            refine sv (yMove h8) ?_
            refine sv (yAdd rfl rfl ⟨by omega, by omega⟩) ?_
            refine sv (yAsg rfl) ?_
            refine nil ?_
            exact ⟨_, _, rfl, ⟨b + 1, _, _, fo, h1, h4, h6, h7, (rfl.trans (congrArg (Value.int .i64) (by push_cast; omega))), (hS.sub (.cons _ (List.Sublist.refl _))), (by omega), (by rw [best_take hbg, ← hfo]; exact (bestStep_n (skip_of hbe c80)).symm), (hfa), rfl⟩, by omega⟩
          ·
            refine skip ?_
            show Code.wp _ _ _ _ _
            refine region ?_
            refine sv (yMove h9) ?_
            refine sv (yAsg rfl) ?_
            refine nil ?_
            show Code.wp _ _ _ _ _
            refine region ?_
            refine sv (yMove h8) ?_
            refine sv (yAdd rfl rfl ⟨by omega, by omega⟩) ?_
            refine sv (yAsg rfl) ?_
            refine nil ?_
            exact ⟨_, _, rfl, ⟨b + 1, _, _, some (subsB (wetL t) (b + 1)), h1, rfl, h6, h7, (rfl.trans (congrArg (Value.int .i64) (by push_cast; omega))), (hS.sub (.cons_cons _ (.cons _ (List.Sublist.refl _)))), (by omega), (by rw [best_take hbg, ← hfo]; exact (bestStep_y (take_of hbe c80).1 (take_of hbe c80).2).symm), (⟨fun hh => absurd hh hag, fun hh => by cases hh⟩), rfl⟩, by omega⟩
      ·
        simp only [Bool.and_eq_true, Bool.or_eq_true, Bool.and_eq_false_iff, Bool.or_eq_false_iff, decide_eq_true_eq, decide_eq_false_iff_not, Bool.not_eq_true, Bool.not_eq_false, Bool.not_not, Bool.not_eq_eq_eq_not, Bool.not_true, Bool.not_false, Bool.false_eq_true, Bool.true_eq_false, ne_eq, Decidable.not_not, not_false_eq_true, not_true_eq_false] at c28
        rw [hpw] at c28
        have hf := blk_done he (b := b) (by omega) hfo
        refine exit ?_
        show Code.wp _ _ _ _ _
        refine seq ?_
        refine region ?_
        refine sv (yMove h4) ?_
        refine sv (yAsg rfl) ?_
        refine sv (yAsg rfl) ?_
        refine nil ?_
        show Code.wp _ _ _ _ _
        refine wp_ret (scopeR ?_)
        refine retQ (res2 rfl rfl rfl) ?_
        rw [hf]
        exact ⟨_, rfl, (sl_ints (hS.row (.slice af (fo.getD []).length cf)) rfl (fun x hx => by have := wet_mem (getD_mem hfs x hx); constructor <;> omega)), hE0.trans hS.ext⟩
end Go.Proofs.YtmoilbakmlekbaaGreatDoor

/- part A34 -/
namespace Bx
open Go Go.RowKit
def refF (t : Task) (now i : Int) (r : List Int) (l : List Slot) (x : Int × Int) : Option (List Slot) := if (usedN l x : Int) < (plT t now).room x.1 then (plT t now).ref r (l ++ [⟨i, x.1, x.2⟩]) else none
theorem ref_cons (t : Task) (now i : Int) (r : List Int) (l : List Slot) : (plT t now).ref (i :: r) l = (plcP t now i ((wetL t).length + 1)).findSome? (refF t now i r l) := rfl
theorem ref_hit {t : Task} {now i c : Int} {r : List Int} {l L : List Slot} {d k : Nat} (hd : d < (wetL t).length + 1) (hc : (twn t i).chans[k]? = some c) (hs : now + (d : Int) ≤ latestF t i c)
    (hN : (plcP t now i d).findSome? (refF t now i r l) = none) (hM : ((plT t now).at i (now + (d : Int)) ((twn t i).chans.take k)).findSome? (refF t now i r l) = none) (hF : refF t now i r l (c, now + (d : Int)) = some L) : (plT t now).ref (i :: r) l = some L := by
  have h1 : (plcP t now i d ++ (plT t now).at i (now + (d : Int)) ((twn t i).chans.take k)) ++ [(c, now + (d : Int))] <+: plcP t now i ((wetL t).length + 1) := by
    refine List.IsPrefix.trans ?_ (plcP_pre (show d + 1 ≤ (wetL t).length + 1 by omega))
    rw [plcP_succ, List.append_assoc, ← at_in hc hs]
    exact List.prefix_append_right_inj _ |>.2 (at_pre _ _ _ _ _ _)
  obtain ⟨R, hR⟩ := h1
  rw [ref_cons, ← hR, List.append_assoc, List.append_assoc, List.findSome?_append, hN, Option.none_or, List.findSome?_append, hM, Option.none_or, List.singleton_append, List.findSome?_cons, hF]
theorem ref_over {t : Task} {now i : Int} {r : List Int} {l : List Slot} (hN : (plcP t now i ((wetL t).length + 1)).findSome? (refF t now i r l) = none) : (plT t now).ref (i :: r) l = none := by rw [ref_cons, hN]
theorem ref_next {t : Task} {now i : Int} {r : List Int} {l : List Slot} {d : Nat} (hN : (plcP t now i d).findSome? (refF t now i r l) = none) (hM : ((plT t now).at i (now + (d : Int)) (twn t i).chans).findSome? (refF t now i r l) = none) : (plcP t now i (d + 1)).findSome? (refF t now i r l) = none := by
  rw [plcP_succ, List.findSome?_append, hN, hM]; rfl
theorem ref_skip {t : Task} {now i c : Int} {r : List Int} {l : List Slot} {d k : Nat} (hc : (twn t i).chans[k]? = some c) (hM : ((plT t now).at i (now + (d : Int)) ((twn t i).chans.take k)).findSome? (refF t now i r l) = none)
    (h : (decide (latestF t i c < now + (d : Int)) || decide ((chn t c).room ≤ (usedN l (c, now + (d : Int)) : Int))) = true) : ((plT t now).at i (now + (d : Int)) ((twn t i).chans.take (k + 1))).findSome? (refF t now i r l) = none := by
  by_cases hs : now + (d : Int) ≤ latestF t i c
  · rw [at_in hc hs, List.findSome?_append, hM, Option.none_or, List.findSome?_cons, List.findSome?_nil]
    have : refF t now i r l (c, now + (d : Int)) = none := by
      refine if_neg fun hh => ?_
      rw [Bool.or_eq_true, decide_eq_true_eq, decide_eq_true_eq] at h
      have hh2 : (usedN l (c, now + (d : Int)) : Int) < (chn t c).room := hh
      omega
    rw [this]
  · rw [at_out hc hs]; exact hM
theorem ref_stay {t : Task} {now i c : Int} {r : List Int} {l : List Slot} {d k : Nat} (hc : (twn t i).chans[k]? = some c) (hM : ((plT t now).at i (now + (d : Int)) ((twn t i).chans.take k)).findSome? (refF t now i r l) = none)
    (h : ((plT t now).ref r (l ++ [⟨i, c, now + (d : Int)⟩])).isSome = false) : ((plT t now).at i (now + (d : Int)) ((twn t i).chans.take (k + 1))).findSome? (refF t now i r l) = none := by
  by_cases hs : now + (d : Int) ≤ latestF t i c
  · rw [at_in hc hs, List.findSome?_append, hM, Option.none_or, List.findSome?_cons, List.findSome?_nil]
    have h2 : (plT t now).ref r (l ++ [⟨i, c, now + (d : Int)⟩]) = none := by simpa using h
    have : refF t now i r l (c, now + (d : Int)) = none := by
      unfold refF
      rw [h2]; exact ite_self _
    rw [this]
  · rw [at_out hc hs]; exact hM
theorem ref_go {t : Task} {now i c : Int} {r : List Int} {l : List Slot} {d : Nat} (h : (decide (latestF t i c < now + (d : Int)) || decide ((chn t c).room ≤ (usedN l (c, now + (d : Int)) : Int))) = false) : now + (d : Int) ≤ latestF t i c ∧ refF t now i r l (c, now + (d : Int)) = (plT t now).ref r (l ++ [⟨i, c, now + (d : Int)⟩]) := by
  rw [Bool.or_eq_false_iff, decide_eq_false_iff_not, decide_eq_false_iff_not] at h
  refine ⟨by omega, if_pos ?_⟩
  show (usedN l (c, now + (d : Int)) : Int) < (chn t c).room
  omega
theorem slots_one (l : List Slot) : (l.flatMap slotC).all (·.oneCell') = true := by
  induction l with
  | nil => rfl
  | cons x l ih => rw [List.flatMap_cons, List.all_append, ih]; rfl
theorem atE_y {t : Task} {now : Int} (h : (decide ((checkA t).2.2 = 0) && !inB now 0 200000) = true) : atE t now = 7 := by
  rw [Bool.and_eq_true, decide_eq_true_eq, inB_not] at h
  unfold atE
  rw [if_neg (fun k => k h.1), if_pos h.2]
theorem atE_n {t : Task} {now : Int} (h : (decide ((checkA t).2.2 = 0) && !inB now 0 200000) = false) : atE t now = (checkA t).2.2 := by
  rw [Bool.and_eq_false_iff, decide_eq_false_iff_not, inB_not] at h
  unfold atE
  split
  next => rfl
  next h1 => rw [if_neg (by rw [h.resolve_left (fun k => k (Decidable.not_not.1 h1))]; decide)]; omega
theorem atE_chk {t : Task} {now : Int} (h : atE t now = 0) : (checkA t).2.2 = 0 := by
  by_cases e : (checkA t).2.2 = 0
  · exact e
  · unfold atE at h; rw [if_pos e] at h; exact absurd h e
theorem planR_ref {t : Task} {now : Int} (h : atE t now = 0) : planR t now = match (plT t now).ref (wetL t) [] with | none => ([], 9) | some l => (l, 0) := by
  have hok := task_ok (atE_chk h)
  have e : planA t now = (plT t now).ref (wetL t) [] := plan_ref (chL_nod t) (wetL_nod t) (chL_mem hok) (fuel_UU hok now)
  unfold planR
  rw [if_neg (fun k => k h), e]; rfl
theorem planR_i64 (t : Task) (now : Int) : ∀ s ∈ (planR t now).1, SlotI s := by
  by_cases h : (planR t now).2 = 0
  · obtain ⟨hok, hit⟩ := plan_intime h
    have hn := plan_now h
    intro s hs
    have h1 := slot_mem hit hs
    have h2 := hit.fits s hs
    have h3 := chan_mem hok h2.1
    have := hok.ntw
    have := hok.nch
    have h4 : latestF t s.town s.channel ≤ 200000 := Int.min_le_left _ _
    exact ⟨⟨by omega, by omega⟩, ⟨by omega, by omega⟩, ⟨by omega, by omega⟩⟩
  · have : (planR t now).1 = [] := by
      unfold planR at h ⊢
      split
      · rfl
      · rename_i h1
        rw [if_neg h1] at h
        cases hp : planA t now with
        | none => rfl
        | some l => rw [hp] at h; exact absurd rfl h
    rw [this]; intro s hs; cases hs
def endK (t : Task) (now : Int) (c : Int) (A : List Int) (i : Int) (k : Nat) : Int := if c ∈ (twn t i).chans.take k then max ((plT t now).cnt c A + now - 1) (latestF t i c) else (plT t now).cnt c A + now - 1
theorem endK_0 (t : Task) (now c : Int) (A : List Int) (i : Int) : endK t now c A i 0 = (plT t now).cnt c A + now - 1 := by unfold endK; simp
theorem endK_y {t : Task} {now c i : Int} {A : List Int} {k : Nat} (h : (twn t i).chans[k]? = some c) : endK t now c A i (k + 1) = max (endK t now c A i k) (latestF t i c) := by
  unfold endK
  rw [if_pos (by rw [take_snoc h]; simp)]
  split <;> omega
theorem endK_n {t : Task} {now c i x : Int} {A : List Int} {k : Nat} (h : (twn t i).chans[k]? = some x) (hx : ¬ x = c) : endK t now c A i (k + 1) = endK t now c A i k := by
  unfold endK
  have : c ∈ (twn t i).chans.take (k + 1) ↔ c ∈ (twn t i).chans.take k := by
    rw [take_snoc h, List.mem_append, List.mem_singleton]
    exact ⟨fun h => h.resolve_right fun e => hx e.symm, .inl⟩
  simp only [this]
theorem endK_end {t : Task} {now c i : Int} {A : List Int} {j : Nat} (h : A[j]? = some i) : endK t now c (A.take j) i (twn t i).chans.length = (plT t now).cnt c (A.take (j + 1)) + now - 1 := by
  unfold endK
  rw [List.take_length, take_snoc h, cnt_snoc]
  have e1 : c ∈ (plT t now).chans i ↔ c ∈ (twn t i).chans := Iff.rfl
  have e2 : (plT t now).latest i c - (plT t now).now = latestF t i c - now := rfl
  by_cases hc : c ∈ (twn t i).chans
  · rw [if_pos hc, if_pos (e1.2 hc), e2]; omega
  · rw [if_neg hc, if_neg (fun k => hc (e1.1 k))]
theorem sets_step {l : List Int} {i m : Nat} {a : Int} {zs : List (List Int)} (ha : l[i]? = some a) (hI : setsR l (m + 1) = zs ++ setsR (l.drop i) (m + 1)) : setsR l (m + 1) = (zs ++ (setsR (l.drop (i + 1)) m).map (a :: ·)) ++ setsR (l.drop (i + 1)) (m + 1) := by
  have hk := List.getElem?_eq_some_iff.1 ha
  rw [hI, List.drop_eq_getElem_cons hk.1, hk.2, setsR, List.append_assoc]
theorem sets_end {l : List Int} {m : Nat} {zs : List (List Int)} (hI : setsR l (m + 1) = zs ++ setsR (l.drop l.length) (m + 1)) : setsR l (m + 1) = zs := by
  rw [hI, List.drop_length]; simp [setsR]
abbrev LLI := List (List Int)
theorem setsR_0 (l : List Int) : setsR l 0 = [[]] := by cases l <;> rfl
theorem setsR_len {l z : List Int} {n : Nat} (h : z ∈ setsR l n) : z.length ≤ l.length ∧ z.length = n ∧ ∀ x ∈ z, x ∈ l := by
  obtain ⟨h1, h2⟩ := mem_setsR.1 h
  exact ⟨h1.length_le, h2, fun x hx => h1.subset hx⟩
theorem sets_cnt : ∀ (l : List Int) (n : Nat), (setsR l n).length ≤ 2 ^ l.length
  | l, 0 => by cases l <;> exact Nat.one_le_two_pow
  | [], n + 1 => by simp [setsR]
  | a :: l, n + 1 => by
    have h1 := sets_cnt l n
    have h2 := sets_cnt l (n + 1)
    rw [setsR, List.length_append, List.length_map, List.length_cons, Nat.pow_succ]
    omega
theorem sets_few {l : List Int} (h : l.length ≤ 8) (n : Nat) : (setsR l n).length ≤ 256 := Nat.le_trans (sets_cnt l n) (pow_le8 h).2
def sizeD (W : List Int) (b : Nat) : List (List Int) := ((List.range W.length).drop b).flatMap fun m => setsR W (m + 1)
theorem sizeD_step {W : List Int} {b : Nat} (h : b < W.length) : sizeD W b = setsR W (b + 1) ++ sizeD W (b + 1) := by
  unfold sizeD
  rw [List.drop_eq_getElem_cons (by simpa using h), List.flatMap_cons, List.getElem_range]
theorem sizeD_end {W : List Int} {b : Nat} (h : W.length ≤ b) : sizeD W b = [] := by
  unfold sizeD
  rw [List.drop_of_length_le (by simpa using h)]; rfl
theorem find_step {p : List Int → Bool} {l R : List (List Int)} {k : Nat} {z : List Int} {o : Option (List Int)} (hz : l[k]? = some z) (h : o = (l.drop k ++ R).find? p) (hp : p z = false) : o = (l.drop (k + 1) ++ R).find? p := by
  have hk := List.getElem?_eq_some_iff.1 hz
  rw [h, List.drop_eq_getElem_cons hk.1, hk.2, List.cons_append, List.find?_cons, hp]
theorem find_hit {p : List Int → Bool} {l R : List (List Int)} {k : Nat} {z : List Int} {o : Option (List Int)} (hz : l[k]? = some z) (h : o = (l.drop k ++ R).find? p) (hp : p z = true) : o = some z := by
  have hk := List.getElem?_eq_some_iff.1 hz
  rw [h, List.drop_eq_getElem_cons hk.1, hk.2, List.cons_append, List.find?_cons, hp]
theorem blkO_size (t : Task) (now : Int) : blkO t now = (sizeSets (wetL t)).find? (blkP t now) := block_same _ (wetL_asc t)
theorem blkR_of {t : Task} {now : Int} {o : Option (List Int)} (h : atE t now = 0) (ho : blkO t now = o) : blkR t now = (o.getD [], 0) := by
  unfold blkR; rw [if_neg (fun k => k h), ho]
end Bx

