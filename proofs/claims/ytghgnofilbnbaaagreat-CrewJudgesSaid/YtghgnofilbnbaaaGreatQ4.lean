/- Merged texts, part 4. -/
import Derived.Test.YtghgnofilbnbaaaGreatQ3
import Derived.Laws.BitsLemmas
import Derived.Laws.CopyRow
import Derived.Laws.OwnMore
set_option linter.all false
/- part Ck22 -/
namespace Go.Proofs.YtghgnofilbnbaaaGreat
open Go Bx
set_option maxHeartbeats 1000000 in
/-- barrage/crew.Plan closure 1 -/
theorem c_first {c : Crew} {s : Scr} {a an ax : Option Addr} {cap cn cps p3 p4 p10 p11 p12 b : Nat} {kv : Value} {w0 : World} (h : RCrew w0 [.slice a c.ops.length cap, kv, .slice an c.kinds.length cn] c) (hst : Sl w0 5 RStp (.slice ax s.steps.length cps) s.steps) (hok : ScrOk c s) {st : Nat} (hlt : st < s.steps.length) (HC : (∀ (m : Int) (M : List ((Int × Int) × Value)) (L : List Bx.Item) (w : World), 0 ≤ m ∧ m ≤ 100240 → MemOk c s M → StX [] w0 w ([blk p10 [.map (some b)] 98, mapI b encSp M, blk p3 [.slice a c.ops.length cap, kv, .slice an c.kinds.length cn] 26, blk p4 [.string s.name, .slice ax s.steps.length cps] 45, blk p11 [.func (.func 42) #[] ([.pointer (some ⟨p10, 0, none⟩), .pointer (some ⟨p3, 0, none⟩), .pointer (some ⟨p4, 0, none⟩), .pointer (some ⟨p12, 0, none⟩)] : List Value).toArray] 99, blk p12 [.func (.func 41) #[] ([.pointer (some ⟨p4, 0, none⟩), .pointer (some ⟨p11, 0, none⟩)] : List Value).toArray] 100] ++ L) → CE Tryz.prog 42 (([.int .i64 (st : Int), .int .i64 m] : List Value) ++ ([.pointer (some ⟨p10, 0, none⟩), .pointer (some ⟨p3, 0, none⟩), .pointer (some ⟨p4, 0, none⟩), .pointer (some ⟨p12, 0, none⟩)] : List Value)).toArray w (fun u w' => u = .bool (canS c s st m) ∧ ∃ M' : List ((Int × Int) × Value), MemOk c s M' ∧ StX [] w0 w' ([blk p10 [.map (some b)] 98, mapI b encSp M', blk p3 [.slice a c.ops.length cap, kv, .slice an c.kinds.length cn] 26, blk p4 [.string s.name, .slice ax s.steps.length cps] 45, blk p11 [.func (.func 42) #[] ([.pointer (some ⟨p10, 0, none⟩), .pointer (some ⟨p3, 0, none⟩), .pointer (some ⟨p4, 0, none⟩), .pointer (some ⟨p12, 0, none⟩)] : List Value).toArray] 99, blk p12 [.func (.func 41) #[] ([.pointer (some ⟨p4, 0, none⟩), .pointer (some ⟨p11, 0, none⟩)] : List Value).toArray] 100] ++ L)))) {m0 : Int} (hm0 : 0 ≤ m0 ∧ m0 ≤ 100000) {M : List ((Int × Int) × Value)} (hM : MemOk c s M) {L : List Bx.Item} {w : World} (hS : StX [] w0 w (blk p10 [.map (some b)] 98 :: mapI b encSp M :: blk p3 [.slice a c.ops.length cap, kv, .slice an c.kinds.length cn] 26 :: blk p4 [.string s.name, .slice ax s.steps.length cps] 45 :: blk p11 [.func (.func 42) #[] ([.pointer (some ⟨p10, 0, none⟩), .pointer (some ⟨p3, 0, none⟩), .pointer (some ⟨p4, 0, none⟩), .pointer (some ⟨p12, 0, none⟩)] : List Value).toArray] 99 :: blk p12 [.func (.func 41) #[] ([.pointer (some ⟨p4, 0, none⟩), .pointer (some ⟨p11, 0, none⟩)] : List Value).toArray] 100 :: L)) : CE Tryz.prog 41 #[.int .i64 (st : Int), .int .i64 m0, .pointer (some ⟨p4, 0, none⟩), .pointer (some ⟨p11, 0, none⟩)] w (fun u w' => u = .int .i64 (firstP c s st m0) ∧ ∃ M' : List ((Int × Int) × Value), MemOk c s M' ∧ StX [] w0 w' ([blk p10 [.map (some b)] 98, mapI b encSp M', blk p3 [.slice a c.ops.length cap, kv, .slice an c.kinds.length cn] 26, blk p4 [.string s.name, .slice ax s.steps.length cps] 45, blk p11 [.func (.func 42) #[] ([.pointer (some ⟨p10, 0, none⟩), .pointer (some ⟨p3, 0, none⟩), .pointer (some ⟨p4, 0, none⟩), .pointer (some ⟨p12, 0, none⟩)] : List Value).toArray] 99, blk p12 [.func (.func 41) #[] ([.pointer (some ⟨p4, 0, none⟩), .pointer (some ⟨p11, 0, none⟩)] : List Value).toArray] 100] ++ L)) := by
  obtain ⟨ov, kv2, nv2, he, hso, -, hsn, hrm⟩ := id h
  cases he
  obtain ⟨an', cn', hv2, hncap, hnmx, heln⟩ := id hsn
  obtain ⟨rfl, rfl⟩ := slice_inj hv2.symm
  obtain ⟨ax', cx', hv3, hacap, hamx, hels⟩ := id hst
  obtain ⟨rfl, rfl⟩ := slice_inj hv3.symm
  obtain ⟨x, hxq, hdq⟩ := drop_of (l := s.steps) (k := st) (by omega)
  obtain ⟨bq, oq, csq, haq, hlenq, hcsq, hRq⟩ := hels (st) (by omega)
  obtain rfl : x = s.steps[st] := (List.getElem?_eq_some_iff.1 hxq).2.symm
  generalize s.steps[st] = x at hxq hdq hRq
  obtain ⟨rfl, hxi⟩ := hRq
  have hx := stpAt_hit hxq
  have hsx := hok.steps st x hxq
  have hx4 := hsx.most
  have hx5 := hsx.least
  refine enter Tryz.func41 rfl Tryz.ntmps41 rfl ?_
  skip
  refine seq ?_
  refine region ?_
  refine sv (yAsg rfl) ?_
  refine nil ?_
  show Code.wp _ _ _ _ _
  refine seq ?_
  refine seq ?_
  refine region ?_
  refine sv (yMove rfl) ?_
  refine sv (fa45_1 rfl) ?_
  refine sv (yLdB rfl Tryz.isAgg43 (hS.at _) rfl) ?_
  refine sv (yMove rfl) ?_
  refine sv (yIxa rfl haq rfl Tryz.runUnderlying43 Tryz.sizeOf78 (by omega) (by omega)) ?_
  refine sv (fa78_3 rfl) ?_
  refine sv (yLd rfl Tryz.isAgg3 ((hcsq.ext hS.ext).at (j := 3) rfl)) ?_
  refine sv (yAdd rfl rfl ⟨by omega, by omega⟩) ?_
  refine sv (yAsg rfl) ?_
  refine nil ?_
  show Code.wp _ _ _ _ _
  refine block ?_
  refine loop (fun f w zz => ∃ (j : Nat) (M : List ((Int × Int) × Value)), f 0 = .int .i64 (st : Int) ∧ f 1 = .int .i64 m0 ∧ f 2 = .pointer (some ⟨p4, 0, none⟩) ∧ f 3 = .pointer (some ⟨p11, 0, none⟩) ∧ f 7 = .int .i64 (m0 + x.least + (j : Int)) ∧ StX [] w0 w (blk p10 [.map (some b)] 98 :: mapI b encSp M :: blk p3 [.slice a c.ops.length cap, kv, .slice an c.kinds.length cn] 26 :: blk p4 [.string s.name, .slice ax s.steps.length cps] 45 :: blk p11 [.func (.func 42) #[] ([.pointer (some ⟨p10, 0, none⟩), .pointer (some ⟨p3, 0, none⟩), .pointer (some ⟨p4, 0, none⟩), .pointer (some ⟨p12, 0, none⟩)] : List Value).toArray] 99 :: blk p12 [.func (.func 41) #[] ([.pointer (some ⟨p4, 0, none⟩), .pointer (some ⟨p11, 0, none⟩)] : List Value).toArray] 100 :: L) ∧ (MemOk c s M) ∧ (∀ i : Nat, i < j → canS c s st (m0 + x.least + (i : Int)) = false) ∧ (x.least + (j : Int) ≤ x.most + 1) ∧ zz = (x.most + 1 - (x.least + (j : Int))).toNat) _ ⟨_, rfl, 0, _, rfl, rfl, rfl, rfl, rfl.trans (congrArg (Value.int .i64) (Int.add_zero _).symm), hS, (hM), (fun i hi => absurd hi (Nat.not_lt_zero i)), (by omega), rfl⟩ ?_
  clear hS
  rintro f w _ ⟨j, M, h0, h1, h2, h3, h7, hS, hM, hN, hj, rfl⟩
  refine seq ?_
  refine seq ?_
  refine region ?_
  refine sv (yMove h7) ?_
  refine sv (yMove h1) ?_
  refine sv (fa45_1 h2) ?_
  refine sv (yLdB rfl Tryz.isAgg43 (hS.at _) rfl) ?_
  refine sv (yMove h0) ?_
  refine sv (yIxa rfl haq rfl Tryz.runUnderlying43 Tryz.sizeOf78 (by omega) (by omega)) ?_
  refine sv (fa78_4 rfl) ?_
  refine sv (yLd rfl Tryz.isAgg3 ((hcsq.ext hS.ext).at (j := 4) rfl)) ?_
  refine sv (yAdd rfl rfl ⟨by omega, by omega⟩) ?_
  refine sv (yLeq rfl rfl) ?_
  refine nil ?_
  show Code.wp _ _ _ _ _
  refine cond rfl (fun c25 => ?_) (fun c25 => ?_)
  ·
    simp only [Bool.and_eq_true, Bool.or_eq_true, Bool.and_eq_false_iff, Bool.or_eq_false_iff, decide_eq_true_eq, decide_eq_false_iff_not, Bool.not_eq_true, Bool.not_eq_false, Bool.not_not, Bool.not_eq_eq_eq_not, Bool.not_true, Bool.not_false, Bool.false_eq_true, Bool.true_eq_false, ne_eq, Decidable.not_not, not_false_eq_true, not_true_eq_false] at c25
    refine skip ?_
    show Code.wp _ _ _ _ _
    refine seq ?_
    refine block ?_
    refine seq ?_
    refine region ?_
    refine sv (yLdB h3 Tryz.isAgg99 (hS.at _) rfl) ?_
    refine sv (yMove h0) ?_
    refine sv (yMove h7) ?_
    refine scallf rfl Tryz.call42 (.cons rfl (.cons rfl .nil)) (HC (m0 + x.least + (j : Int)) M L _ ⟨by omega, by omega⟩ hM hS) ?_
    rintro _ w ⟨rfl, M', hM', hS2⟩; clear hS; have hS : StX [] w0 w (blk p10 [.map (some b)] 98 :: mapI b encSp M' :: blk p3 [.slice a c.ops.length cap, kv, .slice an c.kinds.length cn] 26 :: blk p4 [.string s.name, .slice ax s.steps.length cps] 45 :: blk p11 [.func (.func 42) #[] ([.pointer (some ⟨p10, 0, none⟩), .pointer (some ⟨p3, 0, none⟩), .pointer (some ⟨p4, 0, none⟩), .pointer (some ⟨p12, 0, none⟩)] : List Value).toArray] 99 :: blk p12 [.func (.func 41) #[] ([.pointer (some ⟨p4, 0, none⟩), .pointer (some ⟨p11, 0, none⟩)] : List Value).toArray] 100 :: L) := hS2; clear hS2
    refine nil ?_
    show Code.wp _ _ _ _ _
    refine cond rfl (fun c31 => ?_) (fun c31 => ?_)
    ·
      refine seq ?_
      refine region ?_
      refine sv (yMove h7) ?_
      refine sv (yAsg rfl) ?_
      refine nil ?_
      show Code.wp _ _ _ _ _
      refine wp_ret (blockR (thenR (thenR (blockR (thenR ?_)))))
      refine retQ (res1 rfl rfl) ?_
      exact ⟨by (rw [show firstP c s st m0 = m0 + x.least + (j : Int) from by unfold firstP; rw [hx]; exact firstIn_hit (by omega) c31 hN]; try rfl), M', hM', hS⟩
    ·
      refine skip ?_
      show Code.wp _ _ _ _ _
      refine region ?_
      refine sv (yMove h7) ?_
      refine sv (yAdd rfl rfl ⟨by omega, by omega⟩) ?_
      refine sv (yAsg rfl) ?_
      refine nil ?_
      exact ⟨_, _, rfl, ⟨j + 1, M', h0, h1, h2, h3, rfl.trans (congrArg (Value.int .i64) (by omega)), hS, (hM'), (snoc hN c31), (by omega), rfl⟩, by omega⟩
  ·
    simp only [Bool.and_eq_true, Bool.or_eq_true, Bool.and_eq_false_iff, Bool.or_eq_false_iff, decide_eq_true_eq, decide_eq_false_iff_not, Bool.not_eq_true, Bool.not_eq_false, Bool.not_not, Bool.not_eq_eq_eq_not, Bool.not_true, Bool.not_false, Bool.false_eq_true, Bool.true_eq_false, ne_eq, Decidable.not_not, not_false_eq_true, not_true_eq_false] at c25
    refine exit ?_
    show Code.wp _ _ _ _ _
    refine seq ?_
    refine region ?_
    refine sv (yAsg rfl) ?_
    refine nil ?_
    show Code.wp _ _ _ _ _
    refine wp_ret ?_
    refine retQ (res1 rfl rfl) ?_
    exact ⟨by (rw [show firstP c s st m0 = -1 from by unfold firstP; rw [hx]; exact firstIn_none (fun i hi => hN i (by omega))]; try rfl), M, hM, hS⟩
set_option maxHeartbeats 2000000 in
/-- barrage/crew.Plan closure 2 -/
theorem c_can {c : Crew} {s : Scr} {a an ax : Option Addr} {cap cn cps p3 p4 p10 p11 p12 b : Nat} {kv : Value} {w0 : World} (h : RCrew w0 [.slice a c.ops.length cap, kv, .slice an c.kinds.length cn] c) (hst : Sl w0 5 RStp (.slice ax s.steps.length cps) s.steps) (hok : ScrOk c s) {st : Nat} (hlt : st < s.steps.length) (HF : ∀ k : Nat, st < k → k < s.steps.length → (∀ (m : Int) (M : List ((Int × Int) × Value)) (L : List Bx.Item) (w : World), 0 ≤ m ∧ m ≤ 100000 → MemOk c s M → StX [] w0 w ([blk p10 [.map (some b)] 98, mapI b encSp M, blk p3 [.slice a c.ops.length cap, kv, .slice an c.kinds.length cn] 26, blk p4 [.string s.name, .slice ax s.steps.length cps] 45, blk p11 [.func (.func 42) #[] ([.pointer (some ⟨p10, 0, none⟩), .pointer (some ⟨p3, 0, none⟩), .pointer (some ⟨p4, 0, none⟩), .pointer (some ⟨p12, 0, none⟩)] : List Value).toArray] 99, blk p12 [.func (.func 41) #[] ([.pointer (some ⟨p4, 0, none⟩), .pointer (some ⟨p11, 0, none⟩)] : List Value).toArray] 100] ++ L) → CE Tryz.prog 41 (([.int .i64 (k : Int), .int .i64 m] : List Value) ++ ([.pointer (some ⟨p4, 0, none⟩), .pointer (some ⟨p11, 0, none⟩)] : List Value)).toArray w (fun u w' => u = .int .i64 (firstP c s k m) ∧ ∃ M' : List ((Int × Int) × Value), MemOk c s M' ∧ StX [] w0 w' ([blk p10 [.map (some b)] 98, mapI b encSp M', blk p3 [.slice a c.ops.length cap, kv, .slice an c.kinds.length cn] 26, blk p4 [.string s.name, .slice ax s.steps.length cps] 45, blk p11 [.func (.func 42) #[] ([.pointer (some ⟨p10, 0, none⟩), .pointer (some ⟨p3, 0, none⟩), .pointer (some ⟨p4, 0, none⟩), .pointer (some ⟨p12, 0, none⟩)] : List Value).toArray] 99, blk p12 [.func (.func 41) #[] ([.pointer (some ⟨p4, 0, none⟩), .pointer (some ⟨p11, 0, none⟩)] : List Value).toArray] 100] ++ L)))) {m : Int} (hm : 0 ≤ m ∧ m ≤ 100240) {M : List ((Int × Int) × Value)} (hM : MemOk c s M) {L : List Bx.Item} {w : World} (hS : StX [] w0 w (blk p10 [.map (some b)] 98 :: mapI b encSp M :: blk p3 [.slice a c.ops.length cap, kv, .slice an c.kinds.length cn] 26 :: blk p4 [.string s.name, .slice ax s.steps.length cps] 45 :: blk p11 [.func (.func 42) #[] ([.pointer (some ⟨p10, 0, none⟩), .pointer (some ⟨p3, 0, none⟩), .pointer (some ⟨p4, 0, none⟩), .pointer (some ⟨p12, 0, none⟩)] : List Value).toArray] 99 :: blk p12 [.func (.func 41) #[] ([.pointer (some ⟨p4, 0, none⟩), .pointer (some ⟨p11, 0, none⟩)] : List Value).toArray] 100 :: L)) : CE Tryz.prog 42 #[.int .i64 (st : Int), .int .i64 m, .pointer (some ⟨p10, 0, none⟩), .pointer (some ⟨p3, 0, none⟩), .pointer (some ⟨p4, 0, none⟩), .pointer (some ⟨p12, 0, none⟩)] w (fun u w' => u = .bool (canS c s st m) ∧ ∃ M' : List ((Int × Int) × Value), MemOk c s M' ∧ StX [] w0 w' ([blk p10 [.map (some b)] 98, mapI b encSp M', blk p3 [.slice a c.ops.length cap, kv, .slice an c.kinds.length cn] 26, blk p4 [.string s.name, .slice ax s.steps.length cps] 45, blk p11 [.func (.func 42) #[] ([.pointer (some ⟨p10, 0, none⟩), .pointer (some ⟨p3, 0, none⟩), .pointer (some ⟨p4, 0, none⟩), .pointer (some ⟨p12, 0, none⟩)] : List Value).toArray] 99, blk p12 [.func (.func 41) #[] ([.pointer (some ⟨p4, 0, none⟩), .pointer (some ⟨p11, 0, none⟩)] : List Value).toArray] 100] ++ L)) := by
  obtain ⟨ov, kv2, nv2, he, hso, -, hsn, hrm⟩ := id h
  cases he
  obtain ⟨an', cn', hv2, hncap, hnmx, heln⟩ := id hsn
  obtain ⟨rfl, rfl⟩ := slice_inj hv2.symm
  obtain ⟨ax', cx', hv3, hacap, hamx, hels⟩ := id hst
  obtain ⟨rfl, rfl⟩ := slice_inj hv3.symm
  obtain ⟨x, hxq, hdq⟩ := drop_of (l := s.steps) (k := st) (by omega)
  obtain ⟨bq, oq, csq, haq, hlenq, hcsq, hRq⟩ := hels (st) (by omega)
  obtain rfl : x = s.steps[st] := (List.getElem?_eq_some_iff.1 hxq).2.symm
  generalize s.steps[st] = x at hxq hdq hRq
  obtain ⟨rfl, hxi⟩ := hRq
  have hx := stpAt_hit hxq
  have hsx := hok.steps st x hxq
  have hx4 := hsx.most
  have hx5 := hsx.least
  obtain ⟨kk, hkk⟩ := Int.eq_ofNat_of_zero_le hsx.kind.1
  have hkl : kk < c.kinds.length := by have := hsx.kind; omega
  obtain ⟨z, hxt, hdt⟩ := drop_of (l := c.kinds) (k := kk) (by omega)
  obtain ⟨bt, ot, cst, hat, hlent, hcst, hRt⟩ := heln (kk) (by omega)
  obtain rfl : z = c.kinds[kk] := (List.getElem?_eq_some_iff.1 hxt).2.symm
  generalize c.kinds[kk] = z at hxt hdt hRt
  obtain ⟨xv, rfl, -⟩ := hRt
  have hz := kndAt_hit hkk hxt
  have hB0 := baseP_eq (m := m) hx hz
  refine enter Tryz.func42 rfl Tryz.ntmps42 rfl ?_
  skip
  refine seq ?_
  refine region ?_
  refine sv (yAsg rfl) ?_
  refine nil ?_
  show Code.wp _ _ _ _ _
  refine seq ?_
  refine seq ?_
  refine region ?_
  refine sv (yLdB rfl Tryz.isAgg98 (hS.at _) rfl) ?_
  refine sv (yMove rfl) ?_
  refine sv (yMove rfl) ?_
  refine sv (yBuild Tryz.zeroValue103 rfl pl103 (.cons rfl rfl (.cons rfl rfl .nil)) rfl) ?_
  refine sv (yLookOk2 encSp (k := ((st : Int), m)) rfl rfl Tryz.runUnderlying98 keySp Tryz.zeroValue4 (hS.is _) rfl) ?_
  refine sv (yMove rfl) ?_
  refine sv (yExt rfl rfl) ?_
  refine sv (yExt rfl rfl) ?_
  refine sv (yAsg rfl) ?_
  refine sv (yAsg rfl) ?_
  refine nil ?_
  show Code.wp _ _ _ _ _
  refine seq ?_
  refine region ?_
  refine sv (yMove rfl) ?_
  refine nil ?_
  show Code.wp _ _ _ _ _
  refine cond rfl (fun c22 => ?_) (fun c22 => ?_)
  ·
    refine seq ?_
    refine region ?_
    refine sv (yMove rfl) ?_
    refine sv (yAsg rfl) ?_
    refine nil ?_
    show Code.wp _ _ _ _ _
    refine wp_ret (thenR ?_)
    refine retQ (res1 rfl rfl) ?_
    exact ⟨hM.get c22, M, hM, hS⟩
  ·
    refine skip ?_
    show Code.wp _ _ _ _ _
    refine seq ?_
    refine region_draw mixed (by kernel_rfl) hS ?_
    refine qv (fun w hS => (yMove rfl)) ?_
    refine qcall Tryz.call25 (.cons rfl .nil) (fun w hS => c_never) ?_
    refine qv (fun w hS => (yNot rfl)) ?_
    refine qv (fun w hS => (yMove rfl)) ?_
    refine qg rfl rfl rfl (fun g w hS => (yLdBA rfl Tryz.isAgg26 Tryz.sizeOf26 (hS.at _) rfl rfl)) (fun v28 g28 => ?_)
    refine qg rfl rfl rfl (fun g w hS => (fa26_2 rfl)) (fun v29 g29 => ?_)
    refine qg rfl rfl rfl (fun g w hS => (yLdB (g29.1 g) Tryz.isAgg24 (hS.at _) rfl)) (fun v30 g30 => ?_)
    refine qg rfl rfl rfl (fun g w hS => (fa45_1 rfl)) (fun v31 g31 => ?_)
    refine qg rfl rfl rfl (fun g w hS => (yLdB (g31.1 g) Tryz.isAgg43 (hS.at _) rfl)) (fun v32 g32 => ?_)
    refine qg rfl rfl rfl (fun g w hS => (yMove rfl)) (fun v33 g33 => ?_)
    refine qg rfl rfl rfl (fun g w hS => (yIxa (g32.1 g) haq (g33.1 g) Tryz.runUnderlying43 Tryz.sizeOf78 (by omega) (by omega))) (fun v34 g34 => ?_)
    refine qg rfl rfl rfl (fun g w hS => (fa78_0 (g34.1 g))) (fun v35 g35 => ?_)
    refine qg rfl rfl rfl (fun g w hS => (yLd (g35.1 g) Tryz.isAgg3 ((hcsq.ext hS.ext).at (j := 0) rfl))) (fun v36 g36 => ?_)
    refine qg rfl rfl rfl (fun g w hS => (yIxa (g30.1 g) hat ((g36.1 g).trans (congrArg (Value.int .i64) hkk)) Tryz.runUnderlying24 Tryz.sizeOf92 (by omega) (by omega))) (fun v37 g37 => ?_)
    refine qg rfl rfl rfl (fun g w hS => (yLdA (g37.1 g) Tryz.isAgg92 Tryz.sizeOf92 (hcst.ext hS.ext) rfl)) (fun v38 g38 => ?_)
    refine qg rfl rfl rfl (fun g w hS => (yMove rfl)) (fun v39 g39 => ?_)
    refine qgc rfl rfl rfl Tryz.call43 (fun g => (.cons (g28.1 g) (.cons (g38.1 g) (.cons (g39.1 g) .nil)))) (fun g w hS => (c_able (x := z) (h.ext hS.ext))) (fun v40 g40 => ?_)
    refine qv (fun w hS => (yAnd rfl (fun hB => (g40.1 hB)) rfl)) ?_
    refine qv (fun w hS => (yAsg rfl)) ?_
    clear hS; refine qnil (fun w hS => ?_)
    show Code.wp _ _ _ _ _
    refine seq ?_
    refine seq ?_
    refine region ?_
    refine sv (fa45_1 rfl) ?_
    refine sv (yLdB rfl Tryz.isAgg43 (hS.at _) rfl) ?_
    refine sv (yLen rfl Tryz.underlying43) ?_
    refine sv (yMove rfl) ?_
    refine nil ?_
    show Code.wp _ _ _ _ _
    refine block ?_
    refine loop (fun f w zz => ∃ (k : Nat) (M : List ((Int × Int) × Value)), f 0 = .int .i64 (st : Int) ∧ f 1 = .int .i64 m ∧ f 2 = .pointer (some ⟨p10, 0, none⟩) ∧ f 5 = .pointer (some ⟨p12, 0, none⟩) ∧ f 11 = .bool (accK c s st m k) ∧ f 43 = .slice ax s.steps.length cps ∧ f 44 = .int .i64 (s.steps.length : Int) ∧ f 45 = .int .i64 (k : Int) ∧ StX [] w0 w (blk p10 [.map (some b)] 98 :: mapI b encSp M :: blk p3 [.slice a c.ops.length cap, kv, .slice an c.kinds.length cn] 26 :: blk p4 [.string s.name, .slice ax s.steps.length cps] 45 :: blk p11 [.func (.func 42) #[] ([.pointer (some ⟨p10, 0, none⟩), .pointer (some ⟨p3, 0, none⟩), .pointer (some ⟨p4, 0, none⟩), .pointer (some ⟨p12, 0, none⟩)] : List Value).toArray] 99 :: blk p12 [.func (.func 41) #[] ([.pointer (some ⟨p4, 0, none⟩), .pointer (some ⟨p11, 0, none⟩)] : List Value).toArray] 100 :: L) ∧ (MemOk c s M) ∧ (k ≤ s.steps.length) ∧ zz = s.steps.length - k) _ ⟨_, rfl, 0, _, rfl, rfl, rfl, rfl, rfl.trans (congrArg Value.bool ((accK_zero c s st m).trans hB0).symm), rfl, rfl, rfl, hS, (hM), (Nat.zero_le _), rfl⟩ ?_
    clear hS
    rintro f w _ ⟨k, M, h0, h1, h2, h5, h11, h43, h44, h45, hS, hM, hk, rfl⟩
    refine seq ?_
    refine region ?_
    refine sv (yLss h45 h44) ?_
    refine nil ?_
    show Code.wp _ _ _ _ _
    refine seq ?_
    refine cond rfl (fun c46 => ?_) (fun c46 => ?_)
    ·
      simp only [Bool.and_eq_true, Bool.or_eq_true, Bool.and_eq_false_iff, Bool.or_eq_false_iff, decide_eq_true_eq, decide_eq_false_iff_not, Bool.not_eq_true, Bool.not_eq_false, Bool.not_not, Bool.not_eq_eq_eq_not, Bool.not_true, Bool.not_false, Bool.false_eq_true, Bool.true_eq_false, ne_eq, Decidable.not_not, not_false_eq_true, not_true_eq_false] at c46
      refine skip ?_
      show Code.wp _ _ _ _ _
      refine seq ?_
      refine block ?_
      refine seq ?_
      refine region ?_
      refine sv (yMove h45) ?_
      obtain ⟨y, hxv, hdv⟩ := drop_of (l := s.steps) (k := k) (by omega)
      obtain ⟨bv, ov, csv, hav, hlenv, hcsv, hRv⟩ := hels (k) (by omega)
      obtain rfl : y = s.steps[k] := (List.getElem?_eq_some_iff.1 hxv).2.symm
      generalize s.steps[k] = y at hxv hdv hRv
      obtain ⟨rfl, hyi⟩ := hRv
      have hyk := stpAt_hit hxv
      have hsy := hok.steps k y hxv
      refine sv (yIxa h43 hav h45 Tryz.runUnderlying43 Tryz.sizeOf78 (by omega) (by omega)) ?_
      refine sv (yLdA rfl Tryz.isAgg78 Tryz.sizeOf78 (hcsv.ext hS.ext) rfl) ?_
      refine salloc hS Tryz.zeroValue78 rfl ?_; clear hS; intro b13 w hS
      refine sv (yAsg rfl) ?_
      refine sst hS rfl rfl Tryz.sizeOf78 rfl rfl rfl rfl ?_; clear hS; intro w hS
      refine nil ?_
      show Code.wp _ _ _ _ _
      refine region ?_
      replace hS : StX [] w0 w (blk b13 [.int .i64 y.kind, .int .i64 y.subj, .int .i64 y.after, .int .i64 y.least, .int .i64 y.most] 78 :: blk p10 [.map (some b)] 98 :: mapI b encSp M :: blk p3 [.slice a c.ops.length cap, kv, .slice an c.kinds.length cn] 26 :: blk p4 [.string s.name, .slice ax s.steps.length cps] 45 :: blk p11 [.func (.func 42) #[] ([.pointer (some ⟨p10, 0, none⟩), .pointer (some ⟨p3, 0, none⟩), .pointer (some ⟨p4, 0, none⟩), .pointer (some ⟨p12, 0, none⟩)] : List Value).toArray] 99 :: blk p12 [.func (.func 41) #[] ([.pointer (some ⟨p4, 0, none⟩), .pointer (some ⟨p11, 0, none⟩)] : List Value).toArray] 100 :: L) := hS
      refine sv (yMove h11) ?_
      refine sv (yMove rfl) ?_
      refine sg rfl rfl rfl (fun g => (fa78_2 rfl)) (fun v52 g52 => ?_)
      refine sg rfl rfl rfl (fun g => (yLdB (g52.1 g) Tryz.isAgg3 (hS.at _) rfl)) (fun v53 g53 => ?_)
      refine sg rfl rfl rfl (fun g => (yMove h0)) (fun v54 g54 => ?_)
      refine sg rfl rfl rfl (fun g => (yNeq (g53.1 g) (g54.1 g))) (fun v55 g55 => ?_)
      refine sg rfl rfl rfl (fun g => (yMove (g55.1 g))) (fun v56 g56 => ?_)
      refine sgg rfl rfl g56 (fun g => (yLdB h5 Tryz.isAgg100 (hS.at _) rfl)) (fun v57 g57 => ?_)
      refine sgg rfl rfl g56 (fun g => (yMove rfl)) (fun v58 g58 => ?_)
      refine sgg rfl rfl g56 (fun g => (yMove h1)) (fun v59 g59 => ?_)
      refine sggR (v := .int .i64 (firstP c s k m)) (fun w' => ∃ M' : List ((Int × Int) × Value), MemOk c s M' ∧ StX [] w0 w' (blk p10 [.map (some b)] 98 :: mapI b encSp M' :: blk p3 [.slice a c.ops.length cap, kv, .slice an c.kinds.length cn] 26 :: blk p4 [.string s.name, .slice ax s.steps.length cps] 45 :: blk p11 [.func (.func 42) #[] ([.pointer (some ⟨p10, 0, none⟩), .pointer (some ⟨p3, 0, none⟩), .pointer (some ⟨p4, 0, none⟩), .pointer (some ⟨p12, 0, none⟩)] : List Value).toArray] 99 :: blk p12 [.func (.func 41) #[] ([.pointer (some ⟨p4, 0, none⟩), .pointer (some ⟨p11, 0, none⟩)] : List Value).toArray] 100 :: blk b13 [.int .i64 y.kind, .int .i64 y.subj, .int .i64 y.after, .int .i64 y.least, .int .i64 y.most] 78 :: L)) ⟨M, hM, front1 (R := [blk p10 [.map (some b)] 98, mapI b encSp M, blk p3 [.slice a c.ops.length cap, kv, .slice an c.kinds.length cn] 26, blk p4 [.string s.name, .slice ax s.steps.length cps] 45, blk p11 [.func (.func 42) #[] ([.pointer (some ⟨p10, 0, none⟩), .pointer (some ⟨p3, 0, none⟩), .pointer (some ⟨p4, 0, none⟩), .pointer (some ⟨p12, 0, none⟩)] : List Value).toArray] 99, blk p12 [.func (.func 41) #[] ([.pointer (some ⟨p4, 0, none⟩), .pointer (some ⟨p11, 0, none⟩)] : List Value).toArray] 100]) hS⟩ rfl rfl g56 (fun g => (g57.1 g)) Tryz.call41 (fun g => (.cons (g58.1 g) (.cons (g59.1 g) .nil))) (fun g => HF k (by have h1 := of_decide_eq_false g.2; have h2 := hsy.after; omega) (by omega) m M _ _ (accK_never g.1) hM (front1 (R := [blk p10 [.map (some b)] 98, mapI b encSp M, blk p3 [.slice a c.ops.length cap, kv, .slice an c.kinds.length cn] 26, blk p4 [.string s.name, .slice ax s.steps.length cps] 45, blk p11 [.func (.func 42) #[] ([.pointer (some ⟨p10, 0, none⟩), .pointer (some ⟨p3, 0, none⟩), .pointer (some ⟨p4, 0, none⟩), .pointer (some ⟨p12, 0, none⟩)] : List Value).toArray] 99, blk p12 [.func (.func 41) #[] ([.pointer (some ⟨p4, 0, none⟩), .pointer (some ⟨p11, 0, none⟩)] : List Value).toArray] 100]) hS)) ?_; clear hS; rintro v60 w ⟨M', hM', hS⟩ g60
      refine sgg rfl rfl g56 (fun g => (yGeq (g60.1 g) rfl)) (fun v61 g61 => ?_)
      refine sg rfl rfl rfl (fun g => (yOr (g56.1 g) rfl (fun hB => (g61.1 ⟨g, hB⟩)))) (fun v62 g62 => ?_)
      refine sv (yAnd rfl (fun hB => (g62.1 hB)) rfl) ?_
      refine sv (yAsg rfl) ?_
      refine nil ?_
      show Code.wp _ _ _ _ _
      refine region ?_
      refine sv (yAdd h45 rfl ⟨by omega, by omega⟩) ?_
      refine sv (yMove rfl) ?_
      refine nil ?_
      exact ⟨_, _, rfl, ⟨k + 1, M', h0, h1, h2, h5, rfl.trans (congrArg Value.bool (accK_succ hyk).symm), h43, h44, rfl, (hS.sub (.cons_cons _ (.cons_cons _ (.cons_cons _ (.cons_cons _ (.cons_cons _ (.cons_cons _ (.cons _ (List.Sublist.refl _))))))))) , (hM'), (by omega), rfl⟩, by omega⟩
    ·
      simp only [Bool.and_eq_true, Bool.or_eq_true, Bool.and_eq_false_iff, Bool.or_eq_false_iff, decide_eq_true_eq, decide_eq_false_iff_not, Bool.not_eq_true, Bool.not_eq_false, Bool.not_not, Bool.not_eq_eq_eq_not, Bool.not_true, Bool.not_false, Bool.false_eq_true, Bool.true_eq_false, ne_eq, Decidable.not_not, not_false_eq_true, not_true_eq_false] at c46
      refine exit ?_
      show Code.wp _ _ _ _ _
      refine seq ?_
      refine region ?_
      refine sv (yLdB h2 Tryz.isAgg98 (hS.at _) rfl) ?_
      refine sv (yMove h0) ?_
      refine sv (yMove h1) ?_
      refine sv (yBuild Tryz.zeroValue103 rfl pl103 (.cons rfl rfl (.cons rfl rfl .nil)) rfl) ?_
      refine sv (yMove h11) ?_
      obtain rfl : k = s.steps.length := by omega
      refine smapset2 encSp (k := ((st : Int), m)) (v := .bool (accK c s st m s.steps.length)) hS rfl rfl rfl Tryz.runUnderlying98 keySp ?_; clear hS; intro w hS
      refine nil ?_
      show Code.wp _ _ _ _ _
      refine seq ?_
      refine region ?_
      refine sv (yMove h11) ?_
      refine sv (yAsg rfl) ?_
      refine nil ?_
      show Code.wp _ _ _ _ _
      refine wp_ret ?_
      refine retQ (res1 rfl rfl) ?_
      have hfl := accK_full hok.steps hlt m
      exact ⟨by (rw [← hfl]; try rfl), _, hM.set hfl, hS⟩
end Go.Proofs.YtghgnofilbnbaaaGreat

/- part C12 -/
namespace Go.Proofs.YtghgnofilbnbaaaGreat
open Go Bx
theorem all_can {c : Crew} {s : Scr} {a an ax : Option Addr} {cap cn cps p3 p4 p10 p11 p12 b : Nat} {kv : Value} {w0 : World} (h : RCrew w0 [.slice a c.ops.length cap, kv, .slice an c.kinds.length cn] c) (hst : Sl w0 5 RStp (.slice ax s.steps.length cps) s.steps) (hok : ScrOk c s)  : ∀ (d st : Nat), st < s.steps.length → s.steps.length - st ≤ d → (∀ (m : Int) (M : List ((Int × Int) × Value)) (L : List Bx.Item) (w : World), 0 ≤ m ∧ m ≤ 100240 → MemOk c s M → StX [] w0 w ([blk p10 [.map (some b)] 98, mapI b encSp M, blk p3 [.slice a c.ops.length cap, kv, .slice an c.kinds.length cn] 26, blk p4 [.string s.name, .slice ax s.steps.length cps] 45, blk p11 [.func (.func 42) #[] ([.pointer (some ⟨p10, 0, none⟩), .pointer (some ⟨p3, 0, none⟩), .pointer (some ⟨p4, 0, none⟩), .pointer (some ⟨p12, 0, none⟩)] : List Value).toArray] 99, blk p12 [.func (.func 41) #[] ([.pointer (some ⟨p4, 0, none⟩), .pointer (some ⟨p11, 0, none⟩)] : List Value).toArray] 100] ++ L) → CE Tryz.prog 42 (([.int .i64 (st : Int), .int .i64 m] : List Value) ++ ([.pointer (some ⟨p10, 0, none⟩), .pointer (some ⟨p3, 0, none⟩), .pointer (some ⟨p4, 0, none⟩), .pointer (some ⟨p12, 0, none⟩)] : List Value)).toArray w (fun u w' => u = .bool (canS c s st m) ∧ ∃ M' : List ((Int × Int) × Value), MemOk c s M' ∧ StX [] w0 w' ([blk p10 [.map (some b)] 98, mapI b encSp M', blk p3 [.slice a c.ops.length cap, kv, .slice an c.kinds.length cn] 26, blk p4 [.string s.name, .slice ax s.steps.length cps] 45, blk p11 [.func (.func 42) #[] ([.pointer (some ⟨p10, 0, none⟩), .pointer (some ⟨p3, 0, none⟩), .pointer (some ⟨p4, 0, none⟩), .pointer (some ⟨p12, 0, none⟩)] : List Value).toArray] 99, blk p12 [.func (.func 41) #[] ([.pointer (some ⟨p4, 0, none⟩), .pointer (some ⟨p11, 0, none⟩)] : List Value).toArray] 100] ++ L))) := by
  intro d
  induction d using Nat.strongRecOn with
  | _ D ih =>
    intro st hlt hd m M L w hm hM hS
    refine c_can h hst hok hlt (fun k hk hkn m' M' L' w' hm' hM' hS' => ?_) hm hM hS
    exact c_first h hst hok hkn (ih (D - 1) (by omega) k hkn (by omega)) hm' hM' hS'
theorem all_first {c : Crew} {s : Scr} {a an ax : Option Addr} {cap cn cps p3 p4 p10 p11 p12 b : Nat} {kv : Value} {w0 : World} (h : RCrew w0 [.slice a c.ops.length cap, kv, .slice an c.kinds.length cn] c) (hst : Sl w0 5 RStp (.slice ax s.steps.length cps) s.steps) (hok : ScrOk c s)  {st : Nat} (hlt : st < s.steps.length) : (∀ (m : Int) (M : List ((Int × Int) × Value)) (L : List Bx.Item) (w : World), 0 ≤ m ∧ m ≤ 100000 → MemOk c s M → StX [] w0 w ([blk p10 [.map (some b)] 98, mapI b encSp M, blk p3 [.slice a c.ops.length cap, kv, .slice an c.kinds.length cn] 26, blk p4 [.string s.name, .slice ax s.steps.length cps] 45, blk p11 [.func (.func 42) #[] ([.pointer (some ⟨p10, 0, none⟩), .pointer (some ⟨p3, 0, none⟩), .pointer (some ⟨p4, 0, none⟩), .pointer (some ⟨p12, 0, none⟩)] : List Value).toArray] 99, blk p12 [.func (.func 41) #[] ([.pointer (some ⟨p4, 0, none⟩), .pointer (some ⟨p11, 0, none⟩)] : List Value).toArray] 100] ++ L) → CE Tryz.prog 41 (([.int .i64 (st : Int), .int .i64 m] : List Value) ++ ([.pointer (some ⟨p4, 0, none⟩), .pointer (some ⟨p11, 0, none⟩)] : List Value)).toArray w (fun u w' => u = .int .i64 (firstP c s st m) ∧ ∃ M' : List ((Int × Int) × Value), MemOk c s M' ∧ StX [] w0 w' ([blk p10 [.map (some b)] 98, mapI b encSp M', blk p3 [.slice a c.ops.length cap, kv, .slice an c.kinds.length cn] 26, blk p4 [.string s.name, .slice ax s.steps.length cps] 45, blk p11 [.func (.func 42) #[] ([.pointer (some ⟨p10, 0, none⟩), .pointer (some ⟨p3, 0, none⟩), .pointer (some ⟨p4, 0, none⟩), .pointer (some ⟨p12, 0, none⟩)] : List Value).toArray] 99, blk p12 [.func (.func 41) #[] ([.pointer (some ⟨p4, 0, none⟩), .pointer (some ⟨p11, 0, none⟩)] : List Value).toArray] 100] ++ L))) :=
  fun m M L w hm hM hS => c_first h hst hok hlt (all_can h hst hok _ st hlt (Nat.le_refl _)) hm hM hS
theorem permP {α : Type} {a b c d e f : α} {L : List α} : (a :: b :: c :: d :: e :: f :: L).Perm (c :: d :: f :: e :: b :: a :: L) :=
  (List.perm_append_comm_assoc [a, b] [c, d, e, f] L).trans (.cons _ (.cons _ ((List.Perm.swap _ _ _).trans (.cons _ (.cons _ (.swap _ _ _))))))
theorem befP_yes {start : Int} {l : List Int} {x : Stp} (h : 0 ≤ x.after) : Value.int .i64 (l.getD (x.after.toNat * 1) 0) = .int .i64 (befP start l x) := by unfold befP; rw [if_pos h, Nat.mul_one]
theorem befP_no {start : Int} {l : List Int} {x : Stp} (h : ¬ 0 ≤ x.after) : Value.int .i64 start = .int .i64 (befP start l x) := by unfold befP; rw [if_neg h]
end Go.Proofs.YtghgnofilbnbaaaGreat

/- part Ck23 -/
namespace Go.Proofs.YtghgnofilbnbaaaGreat
open Go Bx
set_option maxHeartbeats 4000000 in
/-- barrage/crew.Plan -/
theorem c_Plan {c : Crew} {cs ss : List Value} {s : Scr} {w0 : World} (h : RCrew w0 cs c) (hs : RScr w0 ss s) {start : Int} : CE Tryz.prog 22 #[.agg cs.toArray, .agg ss.toArray, .int .i64 start] w0 (fun u w' => ∃ lv, u = .tuple #[lv, .int .i64 (planE c s start)] ∧ St w0 w' [rowI lv 3 1 (planL c s start).length ((planL c s start).flatMap Bx.encI)]) := by
  obtain ⟨ov, kv, nv, rfl, hso, hsk, hsn, hrm⟩ := id h
  obtain ⟨a, cap, rfl, hcap, hmx, hel⟩ := id hso
  obtain ⟨ak, ck, rfl, hkcap, hkmx, -⟩ := id hsk
  obtain ⟨an, cn, rfl, hncap, hnmx, -⟩ := id hsn
  obtain ⟨sv, rfl, hsz, hst⟩ := id hs
  obtain ⟨ax, cps, rfl, hscap, hsmx, hels⟩ := id hst
  refine enter Tryz.func22 rfl Tryz.ntmps22 rfl ?_
  have hS := St.start w0
  refine seq ?_
  refine region ?_
  refine sbox hS rfl rfl ?_; clear hS; intro b3 w hS
  refine sbox hS rfl rfl ?_; clear hS; intro b4 w hS
  refine sv (yAsg rfl) ?_
  refine sv (yAsg rfl) ?_
  refine nil ?_
  show Code.wp _ _ _ _ _
  refine seq ?_
  refine seq ?_
  refine region ?_
  refine sv (yLdBA rfl Tryz.isAgg26 Tryz.sizeOf26 (hS.at _) rfl rfl) ?_
  refine sv (yLdBA rfl Tryz.isAgg45 Tryz.sizeOf45 (hS.at _) rfl rfl) ?_
  refine scall Tryz.call24 (.cons rfl (.cons rfl .nil)) (c_CheckScript (h.ext hS.ext) (hs.ext hS.ext)) ?_
  rintro _ w ⟨rfl, hE⟩; replace hS := hS.step hE; clear hE
  refine sv (yMove rfl) ?_
  refine sv (yExt rfl rfl) ?_
  refine sv (yExt rfl rfl) ?_
  refine sv (yAsg rfl) ?_
  refine sv (yAsg rfl) ?_
  refine nil ?_
  show Code.wp _ _ _ _ _
  refine seq ?_
  refine region ?_
  refine sv (yMove rfl) ?_
  refine sv (yNeq rfl rfl) ?_
  refine nil ?_
  show Code.wp _ _ _ _ _
  refine cond rfl (fun c25 => ?_) (fun c25 => ?_)
  ·
    simp only [Bool.and_eq_true, Bool.or_eq_true, Bool.and_eq_false_iff, Bool.or_eq_false_iff, decide_eq_true_eq, decide_eq_false_iff_not, Bool.not_eq_true, Bool.not_eq_false, Bool.not_not, Bool.not_eq_eq_eq_not, Bool.not_true, Bool.not_false, Bool.false_eq_true, Bool.true_eq_false, ne_eq, Decidable.not_not, not_false_eq_true, not_true_eq_false] at c25
    refine seq ?_
    refine region ?_
    refine sv (yMove rfl) ?_
    refine sv (yAsg rfl) ?_
    refine sv (yAsg rfl) ?_
    refine nil ?_
    show Code.wp _ _ _ _ _
    refine wp_ret (thenR ?_)
    refine retQ (res2 rfl rfl rfl) ?_
    exact ⟨_, by (rw [(planE_bad c25).1]; try rfl), by rw [(planE_bad c25).2]; exact (hS.nilrow 3 1).sub (.cons_cons _ (List.nil_sublist _))⟩
  ·
    simp only [Bool.and_eq_true, Bool.or_eq_true, Bool.and_eq_false_iff, Bool.or_eq_false_iff, decide_eq_true_eq, decide_eq_false_iff_not, Bool.not_eq_true, Bool.not_eq_false, Bool.not_not, Bool.not_eq_eq_eq_not, Bool.not_true, Bool.not_false, Bool.false_eq_true, Bool.true_eq_false, ne_eq, Decidable.not_not, not_false_eq_true, not_true_eq_false] at c25
    have hok := scrOk_of c25
    have hlen := hok.len
    refine skip ?_
    show Code.wp _ _ _ _ _
    refine seq ?_
    refine seq ?_
    refine region ?_
    refine sv (yMove rfl) ?_
    refine scall Tryz.call25 (.cons rfl .nil) c_never ?_
    rintro _ w ⟨rfl, hE⟩; replace hS := hS.step hE; clear hE
    refine nil ?_
    show Code.wp _ _ _ _ _
    refine cond rfl (fun c28 => ?_) (fun c28 => ?_)
    ·
      refine seq ?_
      refine region ?_
      refine sv (yAsg rfl) ?_
      refine sv (yAsg rfl) ?_
      refine nil ?_
      show Code.wp _ _ _ _ _
      refine wp_ret (thenR ?_)
      refine retQ (res2 rfl rfl rfl) ?_
      exact ⟨_, by (rw [(planE_never c25 c28).1]; try rfl), by rw [(planE_never c25 c28).2]; exact (hS.nilrow 3 1).sub (.cons_cons _ (List.nil_sublist _))⟩
    ·
      refine skip ?_
      show Code.wp _ _ _ _ _
      refine seq ?_
      refine region ?_
      refine smkmap encSp hS ?_; clear hS; intro b29 w hS
      refine salloc hS Tryz.zeroValue98 rfl ?_; clear hS; intro b10 w hS
      refine sst hS rfl rfl Tryz.sizeOf98 rfl rfl rfl rfl ?_; clear hS; intro w hS
      refine nil ?_
      show Code.wp _ _ _ _ _
      refine seq ?_
      refine region ?_
      refine salloc hS Tryz.zeroValue99 rfl ?_; clear hS; intro b11 w hS
      refine nil ?_
      show Code.wp _ _ _ _ _
      refine seq ?_
      refine region ?_
      refine sv (yFn (.cons rfl (.cons rfl .nil))) ?_
      refine salloc hS Tryz.zeroValue100 rfl ?_; clear hS; intro b12 w hS
      refine sst hS rfl rfl Tryz.sizeOf100 rfl rfl rfl rfl ?_; clear hS; intro w hS
      refine nil ?_
      show Code.wp _ _ _ _ _
      refine seq ?_
      refine region ?_
      refine sv (yFn (.cons rfl (.cons rfl (.cons rfl (.cons rfl .nil))))) ?_
      refine sst hS rfl rfl Tryz.sizeOf99 rfl rfl rfl rfl ?_; clear hS; intro w hS
      refine nil ?_
      show Code.wp _ _ _ _ _
      refine seq ?_
      refine region ?_
      replace hS := hS.perm permP
      replace hS : StX [] w0 w (blk b10 [.map (some b29)] 98 :: mapI b29 encSp [] :: blk b3 [.slice a c.ops.length cap, .slice ak c.keys.length ck, .slice an c.kinds.length cn] 26 :: blk b4 [.string s.name, .slice ax s.steps.length cps] 45 :: blk b11 [.func (.func 42) #[] ([.pointer (some ⟨b10, 0, none⟩), .pointer (some ⟨b3, 0, none⟩), .pointer (some ⟨b4, 0, none⟩), .pointer (some ⟨b12, 0, none⟩)] : List Value).toArray] 99 :: blk b12 [.func (.func 41) #[] ([.pointer (some ⟨b4, 0, none⟩), .pointer (some ⟨b11, 0, none⟩)] : List Value).toArray] 100 :: []) := hS
      replace hS := hS.nilrow 3 1
      have hnv := outB_false.1 c28
      refine sv (yAsg rfl) ?_
      refine nil ?_
      show Code.wp _ _ _ _ _
      refine seq ?_
      refine seq ?_
      refine region ?_
      refine sv (fa45_1 rfl) ?_
      refine sv (yLdB rfl Tryz.isAgg43 (hS.at _) rfl) ?_
      refine sv (yLen rfl Tryz.underlying43) ?_
      refine sv (yMove rfl) ?_
      refine nil ?_
      show Code.wp _ _ _ _ _
      refine block ?_
      refine loop (fun f w zz => ∃ (k : Nat) (l : List Int) (lv : Value) (M : List ((Int × Int) × Value)), f 2 = .int .i64 start ∧ f 12 = .pointer (some ⟨b12, 0, none⟩) ∧ f 13 = lv ∧ f 33 = .slice ax s.steps.length cps ∧ f 34 = .int .i64 (s.steps.length : Int) ∧ f 35 = .int .i64 (k : Int) ∧ StX [] w0 w [rowI lv 3 1 l.length (l.flatMap Bx.encI), blk b10 [.map (some b29)] 98, mapI b29 encSp M, blk b3 [.slice a c.ops.length cap, .slice ak c.keys.length ck, .slice an c.kinds.length cn] 26, blk b4 [.string s.name, .slice ax s.steps.length cps] 45, blk b11 [.func (.func 42) #[] ([.pointer (some ⟨b10, 0, none⟩), .pointer (some ⟨b3, 0, none⟩), .pointer (some ⟨b4, 0, none⟩), .pointer (some ⟨b12, 0, none⟩)] : List Value).toArray] 99, blk b12 [.func (.func 41) #[] ([.pointer (some ⟨b4, 0, none⟩), .pointer (some ⟨b11, 0, none⟩)] : List Value).toArray] 100] ∧ (k ≤ s.steps.length) ∧ (l.length = k) ∧ (MemOk c s M) ∧ (∀ y ∈ l, 0 ≤ y ∧ y ≤ 100000) ∧ (planR c s start s.steps 0 [] = planR c s start (s.steps.drop k) k l) ∧ zz = s.steps.length - k) _ ⟨_, rfl, 0, [], _, [], rfl, rfl, rfl, rfl, rfl, rfl, hS, (Nat.zero_le _), (rfl), (MemOk.nil c s), (fun y hy => (List.not_mem_nil hy).elim), (rfl), rfl⟩ ?_
      clear hS
      rintro f w _ ⟨k, l, lv, M, h2, h12, h13, h33, h34, h35, hS, hk, hl, hM, hbd, hP, rfl⟩
      refine seq ?_
      refine region ?_
      refine sv (yLss h35 h34) ?_
      refine nil ?_
      show Code.wp _ _ _ _ _
      refine seq ?_
      refine cond rfl (fun c36 => ?_) (fun c36 => ?_)
      ·
        simp only [Bool.and_eq_true, Bool.or_eq_true, Bool.and_eq_false_iff, Bool.or_eq_false_iff, decide_eq_true_eq, decide_eq_false_iff_not, Bool.not_eq_true, Bool.not_eq_false, Bool.not_not, Bool.not_eq_eq_eq_not, Bool.not_true, Bool.not_false, Bool.false_eq_true, Bool.true_eq_false, ne_eq, Decidable.not_not, not_false_eq_true, not_true_eq_false] at c36
        refine skip ?_
        show Code.wp _ _ _ _ _
        refine seq ?_
        refine block ?_
        refine seq ?_
        refine region ?_
        refine sv (yMove h35) ?_
        obtain ⟨y, hxv, hdv⟩ := drop_of (l := s.steps) (k := k) (by omega)
        obtain ⟨bv, ov, csv, hav, hlenv, hcsv, hRv⟩ := hels (k) (by omega)
        obtain rfl : y = s.steps[k] := (List.getElem?_eq_some_iff.1 hxv).2.symm
        generalize s.steps[k] = y at hxv hdv hRv
        obtain ⟨rfl, hyi⟩ := hRv
        have hsy := hok.steps k y hxv
        have hya := hsy.after
        refine sv (yIxa h33 hav h35 Tryz.runUnderlying43 Tryz.sizeOf78 (by omega) (by omega)) ?_
        refine sv (yLdA rfl Tryz.isAgg78 Tryz.sizeOf78 (hcsv.ext hS.ext) rfl) ?_
        refine salloc hS Tryz.zeroValue78 rfl ?_; clear hS; intro b15 w hS
        refine sv (yAsg rfl) ?_
        refine sst hS rfl rfl Tryz.sizeOf78 rfl rfl rfl rfl ?_; clear hS; intro w hS
        refine nil ?_
        show Code.wp _ _ _ _ _
        refine seq ?_
        refine region ?_
        replace hS : StX [] w0 w (blk b15 [.int .i64 y.kind, .int .i64 y.subj, .int .i64 y.after, .int .i64 y.least, .int .i64 y.most] 78 :: rowI lv 3 1 l.length (l.flatMap Bx.encI) :: blk b10 [.map (some b29)] 98 :: mapI b29 encSp M :: blk b3 [.slice a c.ops.length cap, .slice ak c.keys.length ck, .slice an c.kinds.length cn] 26 :: blk b4 [.string s.name, .slice ax s.steps.length cps] 45 :: blk b11 [.func (.func 42) #[] ([.pointer (some ⟨b10, 0, none⟩), .pointer (some ⟨b3, 0, none⟩), .pointer (some ⟨b4, 0, none⟩), .pointer (some ⟨b12, 0, none⟩)] : List Value).toArray] 99 :: blk b12 [.func (.func 41) #[] ([.pointer (some ⟨b4, 0, none⟩), .pointer (some ⟨b11, 0, none⟩)] : List Value).toArray] 100 :: []) := hS
        refine sv (yMove h2) ?_
        refine sv (yAsg rfl) ?_
        refine nil ?_
        show Code.wp _ _ _ _ _
        refine seqJ (n := 61) (fun f w => f 2 = .int .i64 start ∧ f 12 = .pointer (some ⟨b12, 0, none⟩) ∧ f 13 = lv ∧ f 14 = .int .i64 (k : Int) ∧ f 16 = .int .i64 (befP start l y) ∧ f 33 = .slice ax s.steps.length cps ∧ f 34 = .int .i64 (s.steps.length : Int) ∧ f 35 = .int .i64 (k : Int) ∧ StX [] w0 w [blk b15 [.int .i64 y.kind, .int .i64 y.subj, .int .i64 y.after, .int .i64 y.least, .int .i64 y.most] 78, rowI lv 3 1 l.length (l.flatMap Bx.encI), blk b10 [.map (some b29)] 98, mapI b29 encSp M, blk b3 [.slice a c.ops.length cap, .slice ak c.keys.length ck, .slice an c.kinds.length cn] 26, blk b4 [.string s.name, .slice ax s.steps.length cps] 45, blk b11 [.func (.func 42) #[] ([.pointer (some ⟨b10, 0, none⟩), .pointer (some ⟨b3, 0, none⟩), .pointer (some ⟨b4, 0, none⟩), .pointer (some ⟨b12, 0, none⟩)] : List Value).toArray] 99, blk b12 [.func (.func 41) #[] ([.pointer (some ⟨b4, 0, none⟩), .pointer (some ⟨b11, 0, none⟩)] : List Value).toArray] 100] ∧ True) ?_ ?_
        ·
          refine seq ?_
          refine region ?_
          refine sv (fa78_2 rfl) ?_
          refine sv (yLdB rfl Tryz.isAgg3 (hS.at _) rfl) ?_
          refine sv (yGeq rfl rfl) ?_
          refine nil ?_
          show Code.wp _ _ _ _ _
          refine cond rfl (fun c43 => ?_) (fun c43 => ?_)
          ·
            simp only [Bool.and_eq_true, Bool.or_eq_true, Bool.and_eq_false_iff, Bool.or_eq_false_iff, decide_eq_true_eq, decide_eq_false_iff_not, Bool.not_eq_true, Bool.not_eq_false, Bool.not_not, Bool.not_eq_eq_eq_not, Bool.not_true, Bool.not_false, Bool.false_eq_true, Bool.true_eq_false, ne_eq, Decidable.not_not, not_false_eq_true, not_true_eq_false] at c43
            refine region ?_
            refine sv (yMove h13) ?_
            refine sv (fa78_2 rfl) ?_
            refine sv (yLdB rfl Tryz.isAgg3 (hS.at _) rfl) ?_
            obtain ⟨g, chl, rfl, -⟩ := row_some (hS.row lv) (by omega)
            refine sv (yIx rfl rfl Tryz.runUnderlying37 Tryz.sizeOf3 (by omega) (by omega)) ?_
            refine sv (yLd rfl Tryz.isAgg3 ((row_at (hS.row (.slice (some ⟨g, 0, none⟩) l.length chl)) rfl (by omega)).at (j := y.after.toNat * 1) (flatI_get (by omega)))) ?_
            refine sv (yAsg rfl) ?_
            refine nil ?_
            exact ⟨_, rfl, h2, h12, h13, rfl, rfl.trans (befP_yes c43), h33, h34, h35, hS, trivial⟩
          ·
            simp only [Bool.and_eq_true, Bool.or_eq_true, Bool.and_eq_false_iff, Bool.or_eq_false_iff, decide_eq_true_eq, decide_eq_false_iff_not, Bool.not_eq_true, Bool.not_eq_false, Bool.not_not, Bool.not_eq_eq_eq_not, Bool.not_true, Bool.not_false, Bool.false_eq_true, Bool.true_eq_false, ne_eq, Decidable.not_not, not_false_eq_true, not_true_eq_false] at c43
            refine skip ?_
            exact ⟨_, rfl, h2, h12, h13, rfl, rfl.trans (befP_no c43), h33, h34, h35, hS, trivial⟩
        ·
          clear hS; rintro f w ⟨h2, h12, h13, h14, h16, h33, h34, h35, hS, -⟩
          refine seq ?_
          refine region ?_
          refine sv (yLdB h12 Tryz.isAgg100 (hS.at _) rfl) ?_
          refine sv (yMove h14) ?_
          refine sv (yMove h16) ?_
          refine scallf rfl Tryz.call41 (.cons rfl (.cons rfl .nil)) (all_first h hst hok (show k < s.steps.length by omega) (befP start l y) M _ _ (befP_bd hnv hbd) hM (front2 (R := [blk b10 [.map (some b29)] 98, mapI b29 encSp M, blk b3 [.slice a c.ops.length cap, .slice ak c.keys.length ck, .slice an c.kinds.length cn] 26, blk b4 [.string s.name, .slice ax s.steps.length cps] 45, blk b11 [.func (.func 42) #[] ([.pointer (some ⟨b10, 0, none⟩), .pointer (some ⟨b3, 0, none⟩), .pointer (some ⟨b4, 0, none⟩), .pointer (some ⟨b12, 0, none⟩)] : List Value).toArray] 99, blk b12 [.func (.func 41) #[] ([.pointer (some ⟨b4, 0, none⟩), .pointer (some ⟨b11, 0, none⟩)] : List Value).toArray] 100]) hS)) ?_
          rintro _ w ⟨rfl, M', hM', hS2⟩; clear hS; have hS : StX [] w0 w (blk b15 [.int .i64 y.kind, .int .i64 y.subj, .int .i64 y.after, .int .i64 y.least, .int .i64 y.most] 78 :: rowI lv 3 1 l.length (l.flatMap Bx.encI) :: blk b10 [.map (some b29)] 98 :: mapI b29 encSp M' :: blk b3 [.slice a c.ops.length cap, .slice ak c.keys.length ck, .slice an c.kinds.length cn] 26 :: blk b4 [.string s.name, .slice ax s.steps.length cps] 45 :: blk b11 [.func (.func 42) #[] ([.pointer (some ⟨b10, 0, none⟩), .pointer (some ⟨b3, 0, none⟩), .pointer (some ⟨b4, 0, none⟩), .pointer (some ⟨b12, 0, none⟩)] : List Value).toArray] 99 :: blk b12 [.func (.func 41) #[] ([.pointer (some ⟨b4, 0, none⟩), .pointer (some ⟨b11, 0, none⟩)] : List Value).toArray] 100 :: []) := unfront2 hS2; clear hS2
          refine sv (yAsg rfl) ?_
          refine nil ?_
          show Code.wp _ _ _ _ _
          refine seq ?_
          refine seq ?_
          refine region ?_
          refine sv (yMove rfl) ?_
          refine sv (yLss rfl rfl) ?_
          refine nil ?_
          show Code.wp _ _ _ _ _
          refine cond rfl (fun c54 => ?_) (fun c54 => ?_)
          ·
            simp only [Bool.and_eq_true, Bool.or_eq_true, Bool.and_eq_false_iff, Bool.or_eq_false_iff, decide_eq_true_eq, decide_eq_false_iff_not, Bool.not_eq_true, Bool.not_eq_false, Bool.not_not, Bool.not_eq_eq_eq_not, Bool.not_true, Bool.not_false, Bool.false_eq_true, Bool.true_eq_false, ne_eq, Decidable.not_not, not_false_eq_true, not_true_eq_false] at c54
            refine seq ?_
            refine region ?_
            refine sv (yAsg rfl) ?_
            refine sv (yAsg rfl) ?_
            refine nil ?_
            show Code.wp _ _ _ _ _
            refine wp_ret (thenR (blockR (thenR (thenR (blockR (thenR ?_))))))
            refine retQ (res2 rfl rfl rfl) ?_
            exact ⟨_, by (rw [(planE_none c25 c28 (by rw [hP, hdv, planR_cons, if_pos c54])).1]; try rfl), by rw [(planE_none c25 c28 (by rw [hP, hdv, planR_cons, if_pos c54])).2]; exact (hS.nilrow 3 1).sub (.cons_cons _ (List.nil_sublist _))⟩
          ·
            simp only [Bool.and_eq_true, Bool.or_eq_true, Bool.and_eq_false_iff, Bool.or_eq_false_iff, decide_eq_true_eq, decide_eq_false_iff_not, Bool.not_eq_true, Bool.not_eq_false, Bool.not_not, Bool.not_eq_eq_eq_not, Bool.not_true, Bool.not_false, Bool.false_eq_true, Bool.true_eq_false, ne_eq, Decidable.not_not, not_false_eq_true, not_true_eq_false] at c54
            refine skip ?_
            show Code.wp _ _ _ _ _
            refine region ?_
            refine sv (yMove h13) ?_
            refine sv (yMove rfl) ?_
            refine sbslice hS Tryz.underlying37 Tryz.sizeOf3 rfl Tryz.zeroValue3 rfl (.cons rfl rfl .nil) rfl ?_; clear hS; intro b57 w hS
            refine sapp (bytes := 8) (size := 1) (v := lv) (m := 1) hS rfl rfl Tryz.underlying37 ti3 rfl rfl rfl rfl (by decide) (blk_cells (hS.at _)) rfl rfl (by omega) (by omega) ?_; clear hS; intro v58 w hS
            refine sv (yAsg rfl) ?_
            refine nil ?_
            show Code.wp _ _ _ _ _
            refine region ?_
            refine sv (yAdd h35 rfl ⟨by omega, by omega⟩) ?_
            refine sv (yMove rfl) ?_
            refine nil ?_
            have hfb := firstP_bd hok.steps (show k < s.steps.length by omega) (b := befP start l y) c54
            exact ⟨_, _, rfl, ⟨k + 1, l ++ [firstP c s k (befP start l y)], v58, M', h2, h12, rfl, h33, h34, rfl, (by rw [List.flatMap_append, List.length_append]; exact hS.sub (.cons _ (.cons _ (List.Sublist.refl _)))), (by omega), (by simp [hl]), (hM'), (fun z hz => by rcases List.mem_append.1 hz with hz | hz; exact hbd z hz; rw [List.mem_singleton.1 hz]; exact hfb), (by rw [hP, hdv, planR_cons, if_neg c54]), rfl⟩, by omega⟩
      ·
        simp only [Bool.and_eq_true, Bool.or_eq_true, Bool.and_eq_false_iff, Bool.or_eq_false_iff, decide_eq_true_eq, decide_eq_false_iff_not, Bool.not_eq_true, Bool.not_eq_false, Bool.not_not, Bool.not_eq_eq_eq_not, Bool.not_true, Bool.not_false, Bool.false_eq_true, Bool.true_eq_false, ne_eq, Decidable.not_not, not_false_eq_true, not_true_eq_false] at c36
        refine exit ?_
        show Code.wp _ _ _ _ _
        refine seq ?_
        refine region ?_
        refine sv (yMove h13) ?_
        refine sv (yAsg rfl) ?_
        refine sv (yAsg rfl) ?_
        refine nil ?_
        show Code.wp _ _ _ _ _
        refine wp_ret ?_
        refine retQ (res2 rfl rfl rfl) ?_
        obtain rfl : k = s.steps.length := by omega
        have hfin := planE_some c25 c28 (l := l) (by rw [hP, List.drop_length]; rfl)
        exact ⟨lv, by (rw [hfin.1]; try rfl), by rw [hfin.2]; exact hS.sub (.cons_cons _ (List.nil_sublist _))⟩
end Go.Proofs.YtghgnofilbnbaaaGreat

/- part C13 -/
namespace Bx
open Go Go.RowKit
def exO1 : Opr := ⟨⟨#[97, 110, 110]⟩, 5, [⟨0, 600⟩]⟩
def exO2 : Opr := ⟨⟨#[98, 111, 98]⟩, 3, [⟨0, 300⟩, ⟨400, 600⟩]⟩
def exO3 : Opr := ⟨⟨#[101, 118, 101]⟩, 4, [⟨200, 600⟩]⟩
def exK1 : Knd := ⟨⟨#[108, 111, 111, 107]⟩, 1, 0, 0, [], false⟩
def exK2 : Knd := ⟨⟨#[99, 108, 111, 115, 101]⟩, 4, 3, 10, [0, 1], true⟩
def exC : Crew := ⟨[exO1, exO2, exO3], [⟨#[114, 101, 100]⟩, ⟨#[98, 108, 117, 101]⟩], [exK1, exK2]⟩
def exA : List Acn := [⟨10, 0, 1, 0, 0, 0⟩, ⟨11, 1, 1, 1, 0, 0⟩, ⟨12, 0, 4, 1, 0, 7⟩, ⟨13, 0, 5, 2, 0, 0⟩, ⟨22, 1, 5, 2, 0, 0⟩, ⟨22, 1, 5, 2, 0, 0⟩, ⟨23, 1, 4, 1, 0, 8⟩, ⟨20, 0, 4, 0, 0, 0⟩, ⟨310, 0, 1, 1, 0, 0⟩]
def exS : Scr := ⟨⟨#[100, 114, 105, 108, 108]⟩, [⟨1, 7, -1, 0, 30⟩, ⟨0, 1, 0, 5, 20⟩, ⟨1, 9, 1, 60, 90⟩]⟩
theorem ex_play : playE exC exA = 0 ∧ playL exC exA = [0, 0, 0, 204, 0, 206, 203, 200, 0] := by decide +kernel
theorem ex_plan : planE exC exS 500 = 0 ∧ planL exC exS 500 = [500, 505, 565] := by decide +kernel
theorem ex_down : planE exC exS 560 = 9 := by decide +kernel
end Bx

/- part Ck24 -/
namespace Go.Proofs.YtghgnofilbnbaaaGreat
open Go Bx
/-- barrage/barrageref02.Ints -/
theorem c_Ints {la lb : List Int} {va vb : Value} {w0 : World} (ha : Sl w0 1 RInt va la) (hb : Sl w0 1 RInt vb lb) : CV Tryz.prog 13 #[va, vb] w0 (.bool (decide (la = lb))) := by
  obtain ⟨aa, ca, rfl, hca, hma, hela⟩ := ha
  obtain ⟨ab, cb, rfl, hcb, hmb, helb⟩ := hb
  refine enter Tryz.func13 rfl Tryz.ntmps13 rfl ?_
  have hS := St.start w0
  refine seq ?_
  refine region ?_
  refine sv (yAsg rfl) ?_
  refine nil ?_
  show Code.wp _ _ _ _ _
  refine seq ?_
  refine seq ?_
  refine region ?_
  refine sv (yMove rfl) ?_
  refine sv (yLen rfl Tryz.underlying37) ?_
  refine sv (yMove rfl) ?_
  refine sv (yLen rfl Tryz.underlying37) ?_
  refine sv (yNeq rfl rfl) ?_
  refine nil ?_
  show Code.wp _ _ _ _ _
  refine cond rfl (fun c10 => ?_) (fun c10 => ?_)
  ·
    simp only [Bool.and_eq_true, Bool.or_eq_true, Bool.and_eq_false_iff, Bool.or_eq_false_iff, decide_eq_true_eq, decide_eq_false_iff_not, Bool.not_eq_true, Bool.not_eq_false, Bool.not_not, Bool.not_eq_eq_eq_not, Bool.not_true, Bool.not_false, Bool.false_eq_true, Bool.true_eq_false, ne_eq, Decidable.not_not, not_false_eq_true, not_true_eq_false] at c10
    refine seq ?_
    refine region ?_
    refine sv (yAsg rfl) ?_
    refine nil ?_
    show Code.wp _ _ _ _ _
    refine wp_ret (thenR ?_)
    exact retV (res1 rfl (eqB (by rw [decide_eq_false (fun h => by rw [h] at c10; exact c10 rfl)]))) hS.ext
  ·
    simp only [Bool.and_eq_true, Bool.or_eq_true, Bool.and_eq_false_iff, Bool.or_eq_false_iff, decide_eq_true_eq, decide_eq_false_iff_not, Bool.not_eq_true, Bool.not_eq_false, Bool.not_not, Bool.not_eq_eq_eq_not, Bool.not_true, Bool.not_false, Bool.false_eq_true, Bool.true_eq_false, ne_eq, Decidable.not_not, not_false_eq_true, not_true_eq_false] at c10
    refine skip ?_
    show Code.wp _ _ _ _ _
    refine seq ?_
    refine seq ?_
    refine region ?_
    refine sv (yAsg rfl) ?_
    refine nil ?_
    show Code.wp _ _ _ _ _
    refine block ?_
    refine loop (fun f w zz => ∃ (k : Nat), f 0 = .slice aa la.length ca ∧ f 1 = .slice ab lb.length cb ∧ f 5 = .int .i64 (k : Int) ∧ StX [] w0 w [] ∧ (k ≤ la.length) ∧ (∀ i, i < k → la[i]? = lb[i]?) ∧ zz = la.length - k) _ ⟨_, rfl, 0, rfl, rfl, rfl, hS, (Nat.zero_le _), (fun i hi => absurd hi (Nat.not_lt_zero i)), rfl⟩ ?_
    clear hS
    rintro f w _ ⟨k, h0, h1, h5, hS, hk, hI, rfl⟩
    refine seq ?_
    refine seq ?_
    refine region ?_
    refine sv (yMove h5) ?_
    refine sv (yMove h0) ?_
    refine sv (yLen rfl Tryz.underlying37) ?_
    refine sv (yLss rfl rfl) ?_
    refine nil ?_
    show Code.wp _ _ _ _ _
    refine cond rfl (fun c14 => ?_) (fun c14 => ?_)
    ·
      simp only [Bool.and_eq_true, Bool.or_eq_true, Bool.and_eq_false_iff, Bool.or_eq_false_iff, decide_eq_true_eq, decide_eq_false_iff_not, Bool.not_eq_true, Bool.not_eq_false, Bool.not_not, Bool.not_eq_eq_eq_not, Bool.not_true, Bool.not_false, Bool.false_eq_true, Bool.true_eq_false, ne_eq, Decidable.not_not, not_false_eq_true, not_true_eq_false] at c14
      obtain ⟨x, hx, hd⟩ := drop_of (l := la) (k := k) (by omega)
      obtain ⟨b, o, cs, ha, hlen, hcs, hR⟩ := hela (k) (by omega)
      obtain rfl : x = la[k] := (List.getElem?_eq_some_iff.1 hx).2.symm
      generalize la[k] = x at hx hd hR
      obtain ⟨rfl, _⟩ := hR
      obtain ⟨y, hxq, hdq⟩ := drop_of (l := lb) (k := k) (by omega)
      obtain ⟨bq, oq, csq, haq, hlenq, hcsq, hRq⟩ := helb (k) (by omega)
      obtain rfl : y = lb[k] := (List.getElem?_eq_some_iff.1 hxq).2.symm
      generalize lb[k] = y at hxq hdq hRq
      obtain ⟨rfl, _⟩ := hRq
      refine skip ?_
      show Code.wp _ _ _ _ _
      refine seq ?_
      refine block ?_
      refine seq ?_
      refine region_draw mixed (by kernel_rfl) hS ?_
      refine qv (fun w hS => (yMove h0)) ?_
      refine qv (fun w hS => (yMove h5)) ?_
      refine qv (fun w hS => (yIxa rfl ha rfl Tryz.runUnderlying37 Tryz.sizeOf3 (by omega) (by omega))) ?_
      refine qv (fun w hS => (yLd rfl Tryz.isAgg3 ((hcs.ext hS.ext).one))) ?_
      refine qv (fun w hS => (yMove h1)) ?_
      refine qv (fun w hS => (yMove h5)) ?_
      refine qv (fun w hS => (yIxa rfl haq rfl Tryz.runUnderlying37 Tryz.sizeOf3 (by omega) (by omega))) ?_
      refine qv (fun w hS => (yLd rfl Tryz.isAgg3 ((hcsq.ext hS.ext).one))) ?_
      refine qv (fun w hS => (yNeq rfl rfl)) ?_
      clear hS; refine qnil (fun w hS => ?_)
      show Code.wp _ _ _ _ _
      refine cond rfl (fun c25 => ?_) (fun c25 => ?_)
      ·
        simp only [Bool.and_eq_true, Bool.or_eq_true, Bool.and_eq_false_iff, Bool.or_eq_false_iff, decide_eq_true_eq, decide_eq_false_iff_not, Bool.not_eq_true, Bool.not_eq_false, Bool.not_not, Bool.not_eq_eq_eq_not, Bool.not_true, Bool.not_false, Bool.false_eq_true, Bool.true_eq_false, ne_eq, Decidable.not_not, not_false_eq_true, not_true_eq_false] at c25
        have hne : x ≠ y := fun h => by subst h; simp at c25
        refine seq ?_
        refine region ?_
        refine sv (yAsg rfl) ?_
        refine nil ?_
        show Code.wp _ _ _ _ _
        refine wp_ret (blockR (thenR (thenR (blockR (thenR ?_)))))
        exact retV (res1 rfl (eqB (by rw [decide_eq_false (ne_of_get hx hxq hne)]))) hS.ext
      ·
        simp only [Bool.and_eq_true, Bool.or_eq_true, Bool.and_eq_false_iff, Bool.or_eq_false_iff, decide_eq_true_eq, decide_eq_false_iff_not, Bool.not_eq_true, Bool.not_eq_false, Bool.not_not, Bool.not_eq_eq_eq_not, Bool.not_true, Bool.not_false, Bool.false_eq_true, Bool.true_eq_false, ne_eq, Decidable.not_not, not_false_eq_true, not_true_eq_false] at c25
        have hxy : x = y := c25
        refine skip ?_
        show Code.wp _ _ _ _ _
        refine region ?_
        refine sv (yMove h5) ?_
        refine sv (yAdd rfl rfl ⟨by omega, by omega⟩) ?_
        refine sv (yAsg rfl) ?_
        refine nil ?_
        exact ⟨_, _, rfl, ⟨k + 1, h0, h1, rfl, hS, (by omega), (snoc hI (by rw [hx, hxq, hxy])), rfl⟩, by omega⟩
    ·
      simp only [Bool.and_eq_true, Bool.or_eq_true, Bool.and_eq_false_iff, Bool.or_eq_false_iff, decide_eq_true_eq, decide_eq_false_iff_not, Bool.not_eq_true, Bool.not_eq_false, Bool.not_not, Bool.not_eq_eq_eq_not, Bool.not_true, Bool.not_false, Bool.false_eq_true, Bool.true_eq_false, ne_eq, Decidable.not_not, not_false_eq_true, not_true_eq_false] at c14
      refine exit ?_
      show Code.wp _ _ _ _ _
      refine seq ?_
      refine region ?_
      refine sv (yAsg rfl) ?_
      refine nil ?_
      show Code.wp _ _ _ _ _
      refine wp_ret ?_
      exact retV (res1 rfl (eqB (by rw [decide_eq_true (eq_of_get (by omega) (fun i hi => hI i (by omega)))]))) hS.ext
/-- barrage/barragelaw10.errors -/
theorem c_errors {la lb : List Int} {va vb : Value} {w0 : World} (ha : Sl w0 1 RInt va la) (hb : Sl w0 1 RInt vb lb) : CV Tryz.prog 7 #[va, vb] w0 (.bool (decide (la = lb))) := by
  obtain ⟨aa, ca, rfl, hca, hma, hela⟩ := ha
  obtain ⟨ab, cb, rfl, hcb, hmb, helb⟩ := hb
  refine enter Tryz.func7 rfl Tryz.ntmps7 rfl ?_
  have hS := St.start w0
  refine seq ?_
  refine region ?_
  refine sv (yAsg rfl) ?_
  refine nil ?_
  show Code.wp _ _ _ _ _
  refine seq ?_
  refine seq ?_
  refine region ?_
  refine sv (yMove rfl) ?_
  refine sv (yLen rfl Tryz.underlying28) ?_
  refine sv (yMove rfl) ?_
  refine sv (yLen rfl Tryz.underlying28) ?_
  refine sv (yNeq rfl rfl) ?_
  refine nil ?_
  show Code.wp _ _ _ _ _
  refine cond rfl (fun c10 => ?_) (fun c10 => ?_)
  ·
    simp only [Bool.and_eq_true, Bool.or_eq_true, Bool.and_eq_false_iff, Bool.or_eq_false_iff, decide_eq_true_eq, decide_eq_false_iff_not, Bool.not_eq_true, Bool.not_eq_false, Bool.not_not, Bool.not_eq_eq_eq_not, Bool.not_true, Bool.not_false, Bool.false_eq_true, Bool.true_eq_false, ne_eq, Decidable.not_not, not_false_eq_true, not_true_eq_false] at c10
    refine seq ?_
    refine region ?_
    refine sv (yAsg rfl) ?_
    refine nil ?_
    show Code.wp _ _ _ _ _
    refine wp_ret (thenR ?_)
    exact retV (res1 rfl (eqB (by rw [decide_eq_false (fun h => by rw [h] at c10; exact c10 rfl)]))) hS.ext
  ·
    simp only [Bool.and_eq_true, Bool.or_eq_true, Bool.and_eq_false_iff, Bool.or_eq_false_iff, decide_eq_true_eq, decide_eq_false_iff_not, Bool.not_eq_true, Bool.not_eq_false, Bool.not_not, Bool.not_eq_eq_eq_not, Bool.not_true, Bool.not_false, Bool.false_eq_true, Bool.true_eq_false, ne_eq, Decidable.not_not, not_false_eq_true, not_true_eq_false] at c10
    refine skip ?_
    show Code.wp _ _ _ _ _
    refine seq ?_
    refine seq ?_
    refine region ?_
    refine sv (yAsg rfl) ?_
    refine nil ?_
    show Code.wp _ _ _ _ _
    refine block ?_
    refine loop (fun f w zz => ∃ (k : Nat), f 0 = .slice aa la.length ca ∧ f 1 = .slice ab lb.length cb ∧ f 5 = .int .i64 (k : Int) ∧ StX [] w0 w [] ∧ (k ≤ la.length) ∧ (∀ i, i < k → la[i]? = lb[i]?) ∧ zz = la.length - k) _ ⟨_, rfl, 0, rfl, rfl, rfl, hS, (Nat.zero_le _), (fun i hi => absurd hi (Nat.not_lt_zero i)), rfl⟩ ?_
    clear hS
    rintro f w _ ⟨k, h0, h1, h5, hS, hk, hI, rfl⟩
    refine seq ?_
    refine seq ?_
    refine region ?_
    refine sv (yMove h5) ?_
    refine sv (yMove h0) ?_
    refine sv (yLen rfl Tryz.underlying28) ?_
    refine sv (yLss rfl rfl) ?_
    refine nil ?_
    show Code.wp _ _ _ _ _
    refine cond rfl (fun c14 => ?_) (fun c14 => ?_)
    ·
      simp only [Bool.and_eq_true, Bool.or_eq_true, Bool.and_eq_false_iff, Bool.or_eq_false_iff, decide_eq_true_eq, decide_eq_false_iff_not, Bool.not_eq_true, Bool.not_eq_false, Bool.not_not, Bool.not_eq_eq_eq_not, Bool.not_true, Bool.not_false, Bool.false_eq_true, Bool.true_eq_false, ne_eq, Decidable.not_not, not_false_eq_true, not_true_eq_false] at c14
      obtain ⟨x, hx, hd⟩ := drop_of (l := la) (k := k) (by omega)
      obtain ⟨b, o, cs, ha, hlen, hcs, hR⟩ := hela (k) (by omega)
      obtain rfl : x = la[k] := (List.getElem?_eq_some_iff.1 hx).2.symm
      generalize la[k] = x at hx hd hR
      obtain ⟨rfl, _⟩ := hR
      obtain ⟨y, hxq, hdq⟩ := drop_of (l := lb) (k := k) (by omega)
      obtain ⟨bq, oq, csq, haq, hlenq, hcsq, hRq⟩ := helb (k) (by omega)
      obtain rfl : y = lb[k] := (List.getElem?_eq_some_iff.1 hxq).2.symm
      generalize lb[k] = y at hxq hdq hRq
      obtain ⟨rfl, _⟩ := hRq
      refine skip ?_
      show Code.wp _ _ _ _ _
      refine seq ?_
      refine block ?_
      refine seq ?_
      refine region_draw mixed (by kernel_rfl) hS ?_
      refine qv (fun w hS => (yMove h0)) ?_
      refine qv (fun w hS => (yMove h5)) ?_
      refine qv (fun w hS => (yIxa rfl ha rfl Tryz.runUnderlying28 Tryz.sizeOf29 (by omega) (by omega))) ?_
      refine qv (fun w hS => (yLd rfl Tryz.isAgg29 ((hcs.ext hS.ext).one))) ?_
      refine qv (fun w hS => (yMove h1)) ?_
      refine qv (fun w hS => (yMove h5)) ?_
      refine qv (fun w hS => (yIxa rfl haq rfl Tryz.runUnderlying28 Tryz.sizeOf29 (by omega) (by omega))) ?_
      refine qv (fun w hS => (yLd rfl Tryz.isAgg29 ((hcsq.ext hS.ext).one))) ?_
      refine qv (fun w hS => (yNeq rfl rfl)) ?_
      clear hS; refine qnil (fun w hS => ?_)
      show Code.wp _ _ _ _ _
      refine cond rfl (fun c25 => ?_) (fun c25 => ?_)
      ·
        simp only [Bool.and_eq_true, Bool.or_eq_true, Bool.and_eq_false_iff, Bool.or_eq_false_iff, decide_eq_true_eq, decide_eq_false_iff_not, Bool.not_eq_true, Bool.not_eq_false, Bool.not_not, Bool.not_eq_eq_eq_not, Bool.not_true, Bool.not_false, Bool.false_eq_true, Bool.true_eq_false, ne_eq, Decidable.not_not, not_false_eq_true, not_true_eq_false] at c25
        have hne : x ≠ y := fun h => by subst h; simp at c25
        refine seq ?_
        refine region ?_
        refine sv (yAsg rfl) ?_
        refine nil ?_
        show Code.wp _ _ _ _ _
        refine wp_ret (blockR (thenR (thenR (blockR (thenR ?_)))))
        exact retV (res1 rfl (eqB (by rw [decide_eq_false (ne_of_get hx hxq hne)]))) hS.ext
      ·
        simp only [Bool.and_eq_true, Bool.or_eq_true, Bool.and_eq_false_iff, Bool.or_eq_false_iff, decide_eq_true_eq, decide_eq_false_iff_not, Bool.not_eq_true, Bool.not_eq_false, Bool.not_not, Bool.not_eq_eq_eq_not, Bool.not_true, Bool.not_false, Bool.false_eq_true, Bool.true_eq_false, ne_eq, Decidable.not_not, not_false_eq_true, not_true_eq_false] at c25
        have hxy : x = y := c25
        refine skip ?_
        show Code.wp _ _ _ _ _
        refine region ?_
        refine sv (yMove h5) ?_
        refine sv (yAdd rfl rfl ⟨by omega, by omega⟩) ?_
        refine sv (yAsg rfl) ?_
        refine nil ?_
        exact ⟨_, _, rfl, ⟨k + 1, h0, h1, rfl, hS, (by omega), (snoc hI (by rw [hx, hxq, hxy])), rfl⟩, by omega⟩
    ·
      simp only [Bool.and_eq_true, Bool.or_eq_true, Bool.and_eq_false_iff, Bool.or_eq_false_iff, decide_eq_true_eq, decide_eq_false_iff_not, Bool.not_eq_true, Bool.not_eq_false, Bool.not_not, Bool.not_eq_eq_eq_not, Bool.not_true, Bool.not_false, Bool.false_eq_true, Bool.true_eq_false, ne_eq, Decidable.not_not, not_false_eq_true, not_true_eq_false] at c14
      refine exit ?_
      show Code.wp _ _ _ _ _
      refine seq ?_
      refine region ?_
      refine sv (yAsg rfl) ?_
      refine nil ?_
      show Code.wp _ _ _ _ _
      refine wp_ret ?_
      exact retV (res1 rfl (eqB (by rw [decide_eq_true (eq_of_get (by omega) (fun i hi => hI i (by omega)))]))) hS.ext
end Go.Proofs.YtghgnofilbnbaaaGreat

/- part Ck25 -/
namespace Go.Proofs.YtghgnofilbnbaaaGreat
open Go Bx
set_option maxHeartbeats 4000000 in
/-- barrage/barragelaw10.Example -/
theorem c_Example {w0 : World} : CE Tryz.prog 20 #[] w0 (fun u w' => ∃ cs : List Value, u = .agg cs.toArray ∧ RCrew w' cs exC ∧ Ext w0 w') := by
  refine enter Tryz.func20 rfl Tryz.ntmps20 rfl ?_
  have hS := St.start w0
  refine seq ?_
  refine region ?_
  refine salloc hS Tryz.zeroValue26 rfl ?_; clear hS; intro b0 w hS
  refine nil ?_
  show Code.wp _ _ _ _ _
  refine seq ?_
  refine region ?_
  refine sv (yBuild Tryz.zeroValue94 rfl pl94 (.cons rfl rfl .nil) rfl) ?_
  refine sbslice hS Tryz.underlying95 Tryz.sizeOf94 rfl Tryz.zeroValue94 rfl (.cons rfl rfl .nil) rfl ?_; clear hS; intro b2 w hS
  refine sv (yBuild Tryz.zeroValue97 rfl pl97 (.cons rfl rfl (.cons rfl rfl (.cons rfl rfl .nil))) rfl) ?_
  refine sv (yBuild Tryz.zeroValue94 rfl pl94 (.cons rfl rfl .nil) rfl) ?_
  refine sv (yBuild Tryz.zeroValue94 rfl pl94 (.cons rfl rfl (.cons rfl rfl .nil)) rfl) ?_
  refine sbslice hS Tryz.underlying95 Tryz.sizeOf94 rfl Tryz.zeroValue94 rfl (.cons rfl rfl (.cons rfl rfl .nil)) rfl ?_; clear hS; intro b6 w hS
  refine sv (yBuild Tryz.zeroValue97 rfl pl97 (.cons rfl rfl (.cons rfl rfl (.cons rfl rfl .nil))) rfl) ?_
  refine sv (yBuild Tryz.zeroValue94 rfl pl94 (.cons rfl rfl (.cons rfl rfl .nil)) rfl) ?_
  refine sbslice hS Tryz.underlying95 Tryz.sizeOf94 rfl Tryz.zeroValue94 rfl (.cons rfl rfl .nil) rfl ?_; clear hS; intro b9 w hS
  refine sv (yBuild Tryz.zeroValue97 rfl pl97 (.cons rfl rfl (.cons rfl rfl (.cons rfl rfl .nil))) rfl) ?_
  refine sbslice hS Tryz.underlying22 Tryz.sizeOf97 rfl Tryz.zeroValue97 rfl (.cons rfl rfl (.cons rfl rfl (.cons rfl rfl .nil))) rfl ?_; clear hS; intro b11 w hS
  refine sbslice hS Tryz.underlying23 Tryz.sizeOf9 rfl Tryz.zeroValue9 rfl (.cons rfl rfl (.cons rfl rfl .nil)) rfl ?_; clear hS; intro b12 w hS
  refine sv (yBuild Tryz.zeroValue92 rfl pl92 (.cons rfl rfl (.cons rfl rfl .nil)) rfl) ?_
  refine sbslice hS Tryz.underlying37 Tryz.sizeOf3 rfl Tryz.zeroValue3 rfl (.cons rfl rfl (.cons rfl rfl .nil)) rfl ?_; clear hS; intro b14 w hS
  refine sv (yBuild Tryz.zeroValue92 rfl pl92 (.cons rfl rfl (.cons rfl rfl (.cons rfl rfl (.cons rfl rfl (.cons rfl rfl (.cons rfl rfl .nil)))))) rfl) ?_
  refine sbslice hS Tryz.underlying24 Tryz.sizeOf92 rfl Tryz.zeroValue92 rfl (.cons rfl rfl (.cons rfl rfl .nil)) rfl ?_; clear hS; intro b16 w hS
  refine sv (yBuild Tryz.zeroValue26 rfl pl26 (.cons rfl rfl (.cons rfl rfl (.cons rfl rfl .nil))) rfl) ?_
  refine sst hS rfl rfl Tryz.sizeOf26 rfl rfl rfl rfl ?_; clear hS; intro w hS
  refine nil ?_
  show Code.wp _ _ _ _ _
  refine wp_ret ?_
  refine retQ (resV1 rfl (rc rfl Tryz.isAgg26 Tryz.sizeOf26 (hS.at b0) rfl rfl)) ?_
  exact ⟨_, rfl, ⟨_, _, _, rfl, (show Sl w 3 ROpr (.slice (some ⟨b11, 0, none⟩) 3 3) ([exO1, exO2, exO3] : List Opr) from sl_of_blk (hS.at b11) (css := [[.string ⟨#[97, 110, 110]⟩, .int .i64 5, .slice (some ⟨b2, 0, none⟩) 1 1], [.string ⟨#[98, 111, 98]⟩, .int .i64 3, .slice (some ⟨b6, 0, none⟩) 2 2], [.string ⟨#[101, 118, 101]⟩, .int .i64 4, .slice (some ⟨b9, 0, none⟩) 1 1]]) (l := ([exO1, exO2, exO3] : List Opr)) rfl ⟨rfl, ⟨_, rfl, by decide, by decide, (show Sl w 2 RSpn (.slice (some ⟨b2, 0, none⟩) 1 1) ([⟨0, 600⟩] : List Spn) from sl_of_blk (hS.at b2) (css := [[.int .i64 0, .int .i64 600]]) (l := ([⟨0, 600⟩] : List Spn)) rfl ⟨rfl, ⟨rfl, by decide, by decide⟩, trivial⟩ (by decide) rfl), (Nat.le_of_ble_eq_true rfl)⟩, rfl, ⟨_, rfl, by decide, by decide, (show Sl w 2 RSpn (.slice (some ⟨b6, 0, none⟩) 2 2) ([⟨0, 300⟩, ⟨400, 600⟩] : List Spn) from sl_of_blk (hS.at b6) (css := [[.int .i64 0, .int .i64 300], [.int .i64 400, .int .i64 600]]) (l := ([⟨0, 300⟩, ⟨400, 600⟩] : List Spn)) rfl ⟨rfl, ⟨rfl, by decide, by decide⟩, rfl, ⟨rfl, by decide, by decide⟩, trivial⟩ (by decide) rfl), (Nat.le_of_ble_eq_true rfl)⟩, rfl, ⟨_, rfl, by decide, by decide, (show Sl w 2 RSpn (.slice (some ⟨b9, 0, none⟩) 1 1) ([⟨200, 600⟩] : List Spn) from sl_of_blk (hS.at b9) (css := [[.int .i64 200, .int .i64 600]]) (l := ([⟨200, 600⟩] : List Spn)) rfl ⟨rfl, ⟨rfl, by decide, by decide⟩, trivial⟩ (by decide) rfl), (Nat.le_of_ble_eq_true rfl)⟩, trivial⟩ (by decide) rfl), (show Sl w 1 RNam (.slice (some ⟨b12, 0, none⟩) 2 2) ([⟨#[114, 101, 100]⟩, ⟨#[98, 108, 117, 101]⟩] : List ByteArray) from sl_of_blk (hS.at b12) (css := [[.string ⟨#[114, 101, 100]⟩], [.string ⟨#[98, 108, 117, 101]⟩]]) (l := ([⟨#[114, 101, 100]⟩, ⟨#[98, 108, 117, 101]⟩] : List ByteArray)) rfl ⟨rfl, ⟨rfl, by decide⟩, rfl, ⟨rfl, by decide⟩, trivial⟩ (by decide) rfl), (show Sl w 6 RKnd (.slice (some ⟨b16, 0, none⟩) 2 2) ([exK1, exK2] : List Knd) from sl_of_blk (hS.at b16) (css := [[.string ⟨#[108, 111, 111, 107]⟩, .int .i64 1, .int .i64 0, .int .i64 0, .slice none 0 0, .bool false], [.string ⟨#[99, 108, 111, 115, 101]⟩, .int .i64 4, .int .i64 3, .int .i64 10, .slice (some ⟨b14, 0, none⟩) 2 2, .bool true]]) (l := ([exK1, exK2] : List Knd)) rfl ⟨rfl, ⟨_, rfl, by decide, by decide, by decide, by decide, Sl.nil, (Nat.le_of_ble_eq_true rfl)⟩, rfl, ⟨_, rfl, by decide, by decide, by decide, by decide, ints_sl (l := [0, 1]) (hS.at b14) (by decide) (by decide), (Nat.le_of_ble_eq_true rfl)⟩, trivial⟩ (by decide) rfl), (Nat.le_of_ble_eq_true rfl)⟩, hS.ext⟩
set_option maxHeartbeats 4000000 in
/-- barrage/barragelaw10.Acts -/
theorem c_Acts {w0 : World} : CE Tryz.prog 21 #[] w0 (fun u w' => Sl w' 6 RAct u exA ∧ Ext w0 w') := by
  refine enter Tryz.func21 rfl Tryz.ntmps21 rfl ?_
  have hS := St.start w0
  refine seq ?_
  refine region ?_
  refine sv (yAsg rfl) ?_
  refine nil ?_
  show Code.wp _ _ _ _ _
  refine seq ?_
  refine region ?_
  refine sv (yBuild Tryz.zeroValue86 rfl pl86 (.cons rfl rfl (.cons rfl rfl .nil)) rfl) ?_
  refine sv (yBuild Tryz.zeroValue86 rfl pl86 (.cons rfl rfl (.cons rfl rfl (.cons rfl rfl (.cons rfl rfl .nil)))) rfl) ?_
  refine sv (yBuild Tryz.zeroValue86 rfl pl86 (.cons rfl rfl (.cons rfl rfl (.cons rfl rfl (.cons rfl rfl .nil)))) rfl) ?_
  refine sv (yBuild Tryz.zeroValue86 rfl pl86 (.cons rfl rfl (.cons rfl rfl (.cons rfl rfl .nil))) rfl) ?_
  refine sv (yBuild Tryz.zeroValue86 rfl pl86 (.cons rfl rfl (.cons rfl rfl (.cons rfl rfl (.cons rfl rfl .nil)))) rfl) ?_
  refine sv (yBuild Tryz.zeroValue86 rfl pl86 (.cons rfl rfl (.cons rfl rfl (.cons rfl rfl (.cons rfl rfl .nil)))) rfl) ?_
  refine sv (yBuild Tryz.zeroValue86 rfl pl86 (.cons rfl rfl (.cons rfl rfl (.cons rfl rfl (.cons rfl rfl (.cons rfl rfl .nil))))) rfl) ?_
  refine sv (yBuild Tryz.zeroValue86 rfl pl86 (.cons rfl rfl (.cons rfl rfl .nil)) rfl) ?_
  refine sv (yBuild Tryz.zeroValue86 rfl pl86 (.cons rfl rfl (.cons rfl rfl (.cons rfl rfl .nil))) rfl) ?_
  refine sbslice hS Tryz.underlying27 Tryz.sizeOf86 rfl Tryz.zeroValue86 rfl (.cons rfl rfl (.cons rfl rfl (.cons rfl rfl (.cons rfl rfl (.cons rfl rfl (.cons rfl rfl (.cons rfl rfl (.cons rfl rfl (.cons rfl rfl .nil))))))))) rfl ?_; clear hS; intro b10 w hS
  refine sv (yAsg rfl) ?_
  refine nil ?_
  show Code.wp _ _ _ _ _
  refine wp_ret ?_
  refine retQ (res1 rfl rfl) ?_
  exact ⟨(show Sl w 6 RAct (.slice (some ⟨b10, 0, none⟩) 9 9) ([⟨10, 0, 1, 0, 0, 0⟩, ⟨11, 1, 1, 1, 0, 0⟩, ⟨12, 0, 4, 1, 0, 7⟩, ⟨13, 0, 5, 2, 0, 0⟩, ⟨22, 1, 5, 2, 0, 0⟩, ⟨22, 1, 5, 2, 0, 0⟩, ⟨23, 1, 4, 1, 0, 8⟩, ⟨20, 0, 4, 0, 0, 0⟩, ⟨310, 0, 1, 1, 0, 0⟩] : List Acn) from sl_of_blk (hS.at b10) (css := [[.int .i64 10, .int .i64 0, .int .i64 1, .int .i64 0, .int .i64 0, .int .i64 0], [.int .i64 11, .int .i64 1, .int .i64 1, .int .i64 1, .int .i64 0, .int .i64 0], [.int .i64 12, .int .i64 0, .int .i64 4, .int .i64 1, .int .i64 0, .int .i64 7], [.int .i64 13, .int .i64 0, .int .i64 5, .int .i64 2, .int .i64 0, .int .i64 0], [.int .i64 22, .int .i64 1, .int .i64 5, .int .i64 2, .int .i64 0, .int .i64 0], [.int .i64 22, .int .i64 1, .int .i64 5, .int .i64 2, .int .i64 0, .int .i64 0], [.int .i64 23, .int .i64 1, .int .i64 4, .int .i64 1, .int .i64 0, .int .i64 8], [.int .i64 20, .int .i64 0, .int .i64 4, .int .i64 0, .int .i64 0, .int .i64 0], [.int .i64 310, .int .i64 0, .int .i64 1, .int .i64 1, .int .i64 0, .int .i64 0]]) (l := ([⟨10, 0, 1, 0, 0, 0⟩, ⟨11, 1, 1, 1, 0, 0⟩, ⟨12, 0, 4, 1, 0, 7⟩, ⟨13, 0, 5, 2, 0, 0⟩, ⟨22, 1, 5, 2, 0, 0⟩, ⟨22, 1, 5, 2, 0, 0⟩, ⟨23, 1, 4, 1, 0, 8⟩, ⟨20, 0, 4, 0, 0, 0⟩, ⟨310, 0, 1, 1, 0, 0⟩] : List Acn)) rfl ⟨rfl, ⟨rfl, by decide, by decide, by decide, by decide, by decide, by decide⟩, rfl, ⟨rfl, by decide, by decide, by decide, by decide, by decide, by decide⟩, rfl, ⟨rfl, by decide, by decide, by decide, by decide, by decide, by decide⟩, rfl, ⟨rfl, by decide, by decide, by decide, by decide, by decide, by decide⟩, rfl, ⟨rfl, by decide, by decide, by decide, by decide, by decide, by decide⟩, rfl, ⟨rfl, by decide, by decide, by decide, by decide, by decide, by decide⟩, rfl, ⟨rfl, by decide, by decide, by decide, by decide, by decide, by decide⟩, rfl, ⟨rfl, by decide, by decide, by decide, by decide, by decide, by decide⟩, rfl, ⟨rfl, by decide, by decide, by decide, by decide, by decide, by decide⟩, trivial⟩ (by decide) rfl), hS.ext⟩
set_option maxHeartbeats 4000000 in
/-- barrage/barragelaw10.Drill -/
theorem c_Drill {w0 : World} : CE Tryz.prog 23 #[] w0 (fun u w' => ∃ cs : List Value, u = .agg cs.toArray ∧ RScr w' cs exS ∧ Ext w0 w') := by
  refine enter Tryz.func23 rfl Tryz.ntmps23 rfl ?_
  have hS := St.start w0
  refine seq ?_
  refine region ?_
  refine salloc hS Tryz.zeroValue45 rfl ?_; clear hS; intro b0 w hS
  refine nil ?_
  show Code.wp _ _ _ _ _
  refine seq ?_
  refine region ?_
  refine sv (yBuild Tryz.zeroValue78 rfl pl78 (.cons rfl rfl (.cons rfl rfl (.cons rfl rfl (.cons rfl rfl .nil)))) rfl) ?_
  refine sv (yBuild Tryz.zeroValue78 rfl pl78 (.cons rfl rfl (.cons rfl rfl (.cons rfl rfl .nil))) rfl) ?_
  refine sv (yBuild Tryz.zeroValue78 rfl pl78 (.cons rfl rfl (.cons rfl rfl (.cons rfl rfl (.cons rfl rfl (.cons rfl rfl .nil))))) rfl) ?_
  refine sbslice hS Tryz.underlying43 Tryz.sizeOf78 rfl Tryz.zeroValue78 rfl (.cons rfl rfl (.cons rfl rfl (.cons rfl rfl .nil))) rfl ?_; clear hS; intro b4 w hS
  refine sv (yBuild Tryz.zeroValue45 rfl pl45 (.cons rfl rfl (.cons rfl rfl .nil)) rfl) ?_
  refine sst hS rfl rfl Tryz.sizeOf45 rfl rfl rfl rfl ?_; clear hS; intro w hS
  refine nil ?_
  show Code.wp _ _ _ _ _
  refine wp_ret ?_
  refine retQ (resV1 rfl (rc rfl Tryz.isAgg45 Tryz.sizeOf45 (hS.at b0) rfl rfl)) ?_
  exact ⟨_, rfl, ⟨_, rfl, by decide, (show Sl w 5 RStp (.slice (some ⟨b4, 0, none⟩) 3 3) ([⟨1, 7, -1, 0, 30⟩, ⟨0, 1, 0, 5, 20⟩, ⟨1, 9, 1, 60, 90⟩] : List Stp) from sl_of_blk (hS.at b4) (css := [[.int .i64 1, .int .i64 7, .int .i64 (-1), .int .i64 0, .int .i64 30], [.int .i64 0, .int .i64 1, .int .i64 0, .int .i64 5, .int .i64 20], [.int .i64 1, .int .i64 9, .int .i64 1, .int .i64 60, .int .i64 90]]) (l := ([⟨1, 7, -1, 0, 30⟩, ⟨0, 1, 0, 5, 20⟩, ⟨1, 9, 1, 60, 90⟩] : List Stp)) rfl ⟨rfl, ⟨rfl, by decide, by decide, by decide, by decide, by decide⟩, rfl, ⟨rfl, by decide, by decide, by decide, by decide, by decide⟩, rfl, ⟨rfl, by decide, by decide, by decide, by decide, by decide⟩, trivial⟩ (by decide) rfl)⟩, hS.ext⟩
end Go.Proofs.YtghgnofilbnbaaaGreat

/- part Ck26 -/
namespace Go.Proofs.YtghgnofilbnbaaaGreat
open Go Bx
set_option maxHeartbeats 4000000 in
/-- barrage/barragelaw10.Awake -/
theorem c_Awake {w0 : World} : CV Tryz.prog 14 #[] w0 (.bool true) := by
  refine enter Tryz.func14 rfl Tryz.ntmps14 rfl ?_
  have hS := St.start w0
  refine seq ?_
  refine region ?_
  refine sv (yAsg rfl) ?_
  refine nil ?_
  show Code.wp _ _ _ _ _
  refine seq ?_
  refine region ?_
  refine scall Tryz.call20 .nil c_Example ?_
  rintro _ w ⟨cs1, rfl, hC1, hE⟩; replace hS := hS.step hE; clear hE
  refine scall Tryz.call21 .nil c_Acts ?_
  rintro av w ⟨hA, hE⟩; replace hC1 := hC1.ext hE; replace hS := hS.step hE; clear hE
  refine scall Tryz.call5 (.cons rfl (.cons rfl .nil)) (c_Play hC1 hA) ?_
  rw [ex_play.1, ex_play.2]
  rintro _ w ⟨lv, rfl, hM⟩; replace hS := hS.call1 hM; clear hM
  refine sv (yMove rfl) ?_
  refine sv (yExt rfl rfl) ?_
  refine sv (yExt rfl rfl) ?_
  refine sv (yAsg rfl) ?_
  refine sv (yAsg rfl) ?_
  refine nil ?_
  show Code.wp _ _ _ _ _
  refine seq ?_
  refine region ?_
  refine scall Tryz.call20 .nil c_Example ?_
  rintro _ w ⟨cs2, rfl, hC2, hE⟩; replace hS := hS.step hE; clear hE
  refine scall Tryz.call23 .nil c_Drill ?_
  rintro _ w ⟨sc2, rfl, hD2, hE⟩; replace hC2 := hC2.ext hE; replace hS := hS.step hE; clear hE
  refine scall Tryz.call22 (.cons rfl (.cons rfl (.cons rfl .nil))) (c_Plan hC2 hD2 (start := 500)) ?_
  rw [ex_plan.1, ex_plan.2]
  rintro _ w ⟨pv, rfl, hM⟩; replace hS := hS.call1 hM; clear hM
  refine sv (yMove rfl) ?_
  refine sv (yExt rfl rfl) ?_
  refine sv (yExt rfl rfl) ?_
  refine sv (yAsg rfl) ?_
  refine sv (yAsg rfl) ?_
  refine nil ?_
  show Code.wp _ _ _ _ _
  refine seq ?_
  refine region ?_
  refine scall Tryz.call20 .nil c_Example ?_
  rintro _ w ⟨cs3, rfl, hC3, hE⟩; replace hS := hS.step hE; clear hE
  refine scall Tryz.call23 .nil c_Drill ?_
  rintro _ w ⟨sc3, rfl, hD3, hE⟩; replace hC3 := hC3.ext hE; replace hS := hS.step hE; clear hE
  refine scall Tryz.call22 (.cons rfl (.cons rfl (.cons rfl .nil))) (c_Plan hC3 hD3 (start := 560)) ?_
  rw [ex_down]
  rintro _ w ⟨qv, rfl, hM⟩; replace hS := hS.call1 hM; clear hM
  refine sv (yMove rfl) ?_
  refine sv (yExt rfl rfl) ?_
  refine sv (yExt rfl rfl) ?_
  refine sv (yAsg rfl) ?_
  refine sv (yAsg rfl) ?_
  refine nil ?_
  show Code.wp _ _ _ _ _
  refine seq ?_
  refine region ?_
  refine sv (yMove rfl) ?_
  refine sv (yEql rfl rfl) ?_
  refine sv (yMove rfl) ?_
  refine ungo rfl rfl rfl ?_
  refine sv (yMove rfl) ?_
  refine ungo rfl rfl rfl ?_
  refine sv (yEql rfl rfl) ?_
  refine sv (yAnd rfl (fun hB => rfl) rfl) ?_
  refine sv (yMove rfl) ?_
  refine ungo rfl rfl rfl ?_
  refine sv (yMove rfl) ?_
  refine ungo rfl rfl rfl ?_
  refine sv (yEql rfl rfl) ?_
  refine sv (yAnd rfl (fun hB => rfl) rfl) ?_
  refine sv (yMove rfl) ?_
  refine ungo rfl rfl rfl ?_
  refine sv (yMove rfl) ?_
  refine ungo rfl rfl rfl ?_
  refine sbslice hS Tryz.underlying28 Tryz.sizeOf29 rfl Tryz.zeroValue29 rfl (.cons rfl rfl (.cons rfl rfl (.cons rfl rfl (.cons rfl rfl (.cons rfl rfl (.cons rfl rfl (.cons rfl rfl (.cons rfl rfl (.cons rfl rfl .nil))))))))) rfl ?_; clear hS; intro b37 w hS
  refine ungo rfl rfl rfl ?_
  refine scall Tryz.call7 (.cons rfl (.cons rfl .nil)) (c_errors (sl_ints (hS.row lv) rfl (by decide)) (ints_sl (b := b37) (l := [0, 0, 0, 204, 0, 206, 203, 200, 0]) (hS.at b37) (by decide) (by decide))) ?_
  rintro _ w ⟨rfl, hE⟩; replace hS := hS.step hE; clear hE
  refine sv (yAnd rfl (fun hB => rfl) rfl) ?_
  refine sv (yMove rfl) ?_
  refine ungo rfl rfl rfl ?_
  refine sv (yMove rfl) ?_
  refine ungo rfl rfl rfl ?_
  refine sbslice hS Tryz.underlying37 Tryz.sizeOf3 rfl Tryz.zeroValue3 rfl (.cons rfl rfl (.cons rfl rfl (.cons rfl rfl .nil))) rfl ?_; clear hS; intro b42 w hS
  refine ungo rfl rfl rfl ?_
  refine scall Tryz.call13 (.cons rfl (.cons rfl .nil)) (c_Ints (sl_ints (hS.row pv) rfl (by decide)) (ints_sl (b := b42) (l := [500, 505, 565]) (hS.at b42) (by decide) (by decide))) ?_
  rintro _ w ⟨rfl, hE⟩; replace hS := hS.step hE; clear hE
  refine sv (yAnd rfl (fun hB => rfl) rfl) ?_
  refine sv (yAsg rfl) ?_
  refine nil ?_
  show Code.wp _ _ _ _ _
  refine wp_ret ?_
  exact retV (res1 rfl rfl) hS.ext
end Go.Proofs.YtghgnofilbnbaaaGreat

/- part C14 -/
namespace Bx
open Go Go.RowKit
/-- What an act does to the orders that are open, and to those that took effect. -/
inductive Eff (x : Acn) (k : Int) (st : Rm) : Int × Rm → Prop
  | same {F : Int × Rm} (h1 : F.2.opn = st.opn) (h2 : F.2.ords = st.ords) (h3 : x.dw = 6 → F.1 ≠ 0) : Eff x k st F
  | opens {F : Int × Rm} (h1 : F.2.opn = st.opn ++ [k]) (h2 : F.2.ords = st.ords) (h3 : x.dw = 4) : Eff x k st F
  | once {F : Int × Rm} (o : Ord) (h1 : F.2.opn = st.opn) (h2 : F.2.ords = st.ords ++ [o]) (h3 : x.dw = 4) (h4 : o.giv = k) : Eff x k st F
  | twice {F : Int × Rm} (o : Ord) (h0 : x.what ∈ st.opn) (h1 : F.2.opn = st.opn.erase x.what) (h2 : F.2.ords = st.ords ++ [o]) (h3 : x.dw = 5) (h4 : o.giv = x.what) : Eff x k st F
  | back {F : Int × Rm} (h0 : x.what ∈ st.opn) (h1 : F.2.opn = st.opn.erase x.what) (h2 : F.2.ords = st.ords) (h3 : x.dw = 6) : Eff x k st F
theorem confE_mem {c : Crew} {acts : List Acn} {x : Acn} {st : Rm} (h : confE c acts x st = 0) : x.what ∈ st.opn := by
  unfold confE at h
  simp only [] at h
  split at h
  · cases h
  · rename_i hh; exact Classical.not_not.1 hh
theorem cancE_mem {c : Crew} {acts : List Acn} {x : Acn} {st : Rm} (h : cancE c acts x st = 0) : x.what ∈ st.opn := by
  unfold cancE at h
  split at h
  · cases h
  · rename_i hh; exact Classical.not_not.1 hh
theorem done_eff {c : Crew} {acts : List Acn} {k : Int} {x : Acn} {st : Rm} (hd : 1 ≤ x.dw ∧ x.dw ≤ 6) : Eff x k st (doneF c acts k x st) := by
  unfold doneF
  split
  · unfold takeF; split <;> exact .same rfl rfl (fun h => by omega)
  split
  · unfold giveF; split <;> exact .same rfl rfl (fun h => by omega)
  split
  · unfold giveF; split <;> exact .same rfl rfl (fun h => by omega)
  split
  · rename_i h4
    unfold orderF
    simp only []
    split
    · exact .same rfl rfl (fun h => by omega)
    split
    · exact .opens rfl rfl h4
    split
    · exact .same rfl rfl (fun h => by omega)
    · exact .once _ rfl rfl h4 rfl
  split
  · rename_i h5
    unfold confirmF
    split
    · exact .same rfl rfl (fun h => by omega)
    · rename_i h0
      exact .twice _ (confE_mem (Classical.not_not.1 h0)) rfl rfl h5 rfl
  · unfold cancelF
    split
    · rename_i h0; exact .same rfl rfl (fun _ => h0)
    · rename_i h0
      exact .back (cancE_mem (Classical.not_not.1 h0)) rfl rfl (by omega)
theorem do_eff {c : Crew} {acts : List Acn} {k : Int} {x : Acn} {st : Rm} (hd : 1 ≤ x.dw ∧ x.dw ≤ 6) : Eff x k st (doF c acts k x st) := by
  unfold doF
  split
  · exact .same rfl rfl (fun _ => by show (200 : Int) ≠ 0; decide)
  split
  · exact .same rfl rfl (fun _ => by show (201 : Int) ≠ 0; decide)
  · cases done_eff (c := c) (acts := acts) (k := k) (st := { st with now := x.tm }) hd with
    | same h1 h2 h3 => exact .same h1 h2 h3
    | opens h1 h2 h3 => exact .opens h1 h2 h3
    | once o h1 h2 h3 h4 => exact .once o h1 h2 h3 h4
    | twice o h0 h1 h2 h3 h4 => exact .twice o h0 h1 h2 h3 h4
    | back h0 h1 h2 h3 => exact .back h0 h1 h2 h3
structure CanInv (acts : List Acn) (k : Nat) (l : List Int) (st : Rm) : Prop where
  nd : st.opn.Nodup
  ap : ∀ o ∈ st.ords, o.giv ∉ st.opn
  cn : ∀ i : Nat, i < k → (actAt acts i).dw = 6 → l.getD i 1 = 0 → (actAt acts i).what ∉ st.opn ∧ (actAt acts i).what < k ∧ ∀ o ∈ st.ords, o.giv ≠ (actAt acts i).what
theorem canInv_step {c : Crew} {acts : List Acn} {k : Nat} {l : List Int} {st : Rm} {x : Acn} (h : CanInv acts k l st) (hr : RmOk c acts k st) (hl : l.length = k) (hx : acts[k]? = some x) (hok : ActOk c k x) :
    CanInv acts (k + 1) (l ++ [(doF c acts k x st).1]) (doF c acts k x st).2 := by
  have hxa := actAt_nat hx
  have old : ∀ i : Nat, i < k + 1 → (actAt acts i).dw = 6 → (l ++ [(doF c acts k x st).1]).getD i 1 = 0 → (i < k ∧ l.getD i 1 = 0) ∨ (i = k ∧ x.dw = 6 ∧ (doF c acts k x st).1 = 0) := by
    intro i hi hd hg
    rw [getD_app hl] at hg
    split at hg
    · exact .inl ⟨by assumption, hg⟩
    · obtain rfl : i = k := by omega
      rw [if_pos rfl] at hg
      rw [hxa] at hd
      exact .inr ⟨rfl, hd, hg⟩
  have hgiv : ∀ o ∈ st.ords, o.giv < k := fun o ho => (hr.ords o ho).1.2
  have hopk : (k : Int) ∉ st.opn := hr.new
  cases do_eff (c := c) (acts := acts) (k := (k : Int)) (st := st) hok.dw with
  | same h1 h2 h3 =>
    refine ⟨by rw [h1]; exact h.nd, by rw [h1, h2]; exact h.ap, fun i hi hd hg => ?_⟩
    rw [h1, h2]
    rcases old i hi hd hg with ⟨a, b⟩ | ⟨rfl, a, b⟩
    · obtain ⟨p, q, r⟩ := h.cn i a hd b; exact ⟨p, by omega, r⟩
    · exact absurd b (h3 a)
  | opens h1 h2 h3 =>
    refine ⟨by rw [h1]; exact List.nodup_append.2 ⟨h.nd, by simp, fun a ha b hb e => by rw [List.mem_singleton.1 hb] at e; subst e; exact hopk ha⟩, ?_, fun i hi hd hg => ?_⟩
    · rw [h1, h2]
      intro o ho hm
      rcases List.mem_append.1 hm with hm | hm
      · exact h.ap o ho hm
      · have := hgiv o ho; rw [List.mem_singleton.1 hm] at this; omega
    · rw [h1, h2]
      rcases old i hi hd hg with ⟨a, b⟩ | ⟨rfl, a, b⟩
      · obtain ⟨p, q, r⟩ := h.cn i a hd b
        refine ⟨fun hm => ?_, by omega, r⟩
        rcases List.mem_append.1 hm with hm | hm
        · exact p hm
        · rw [List.mem_singleton.1 hm] at q; omega
      · omega
  | once o h1 h2 h3 h4 =>
    refine ⟨by rw [h1]; exact h.nd, ?_, fun i hi hd hg => ?_⟩
    · rw [h1, h2]
      intro o' ho
      rcases List.mem_append.1 ho with ho | ho
      · exact h.ap o' ho
      · rw [List.mem_singleton.1 ho, h4]; exact hopk
    · rw [h1, h2]
      rcases old i hi hd hg with ⟨a, b⟩ | ⟨rfl, a, b⟩
      · obtain ⟨p, q, r⟩ := h.cn i a hd b
        refine ⟨p, by omega, fun o' ho => ?_⟩
        rcases List.mem_append.1 ho with ho | ho
        · exact r o' ho
        · rw [List.mem_singleton.1 ho, h4]; omega
      · omega
  | twice o h0 h1 h2 h3 h4 =>
    have hnx : x.what ∉ st.opn.erase x.what := fun hm => by rw [h.nd.mem_erase_iff] at hm; exact hm.1 rfl
    refine ⟨by rw [h1]; exact h.nd.erase _, ?_, fun i hi hd hg => ?_⟩
    · rw [h1, h2]
      intro o' ho hm
      rcases List.mem_append.1 ho with ho | ho
      · exact h.ap o' ho (List.mem_of_mem_erase hm)
      · rw [List.mem_singleton.1 ho, h4] at hm; exact hnx hm
    · rw [h1, h2]
      rcases old i hi hd hg with ⟨a, b⟩ | ⟨rfl, a, b⟩
      · obtain ⟨p, q, r⟩ := h.cn i a hd b
        refine ⟨fun hm => p (List.mem_of_mem_erase hm), by omega, fun o' ho => ?_⟩
        rcases List.mem_append.1 ho with ho | ho
        · exact r o' ho
        · rw [List.mem_singleton.1 ho, h4]; intro e; rw [e] at h0; exact p h0
      · omega
  | back h0 h1 h2 h3 =>
    have hnx : x.what ∉ st.opn.erase x.what := fun hm => by rw [h.nd.mem_erase_iff] at hm; exact hm.1 rfl
    refine ⟨by rw [h1]; exact h.nd.erase _, ?_, fun i hi hd hg => ?_⟩
    · rw [h1, h2]
      intro o' ho hm
      exact h.ap o' ho (List.mem_of_mem_erase hm)
    · rw [h1, h2]
      rcases old i hi hd hg with ⟨a, b⟩ | ⟨rfl, a, b⟩
      · obtain ⟨p, q, r⟩ := h.cn i a hd b
        exact ⟨fun hm => p (List.mem_of_mem_erase hm), by omega, r⟩
      · rw [hxa]
        have := hr.opn _ h0
        exact ⟨hnx, by omega, fun o ho e => h.ap o ho (by rw [e]; exact h0)⟩
theorem plN_inv {c : Crew} {acts : List Acn} (hc : CrewOk c) (hall : ∀ (j : Nat) y, acts[j]? = some y → ActOk c j y) : ∀ k, k ≤ acts.length → RmOk c acts k (plN c acts k).2 ∧ CanInv acts k (plN c acts k).1 (plN c acts k).2
  | 0, _ => ⟨rmOk_0 c acts hc, ⟨List.nodup_nil, fun o ho => (List.not_mem_nil ho).elim, fun i hi => absurd hi (Nat.not_lt_zero i)⟩⟩
  | k + 1, hk => by
    obtain ⟨h1, h2⟩ := plN_inv hc hall k (by omega)
    have hx := List.getElem?_eq_getElem (show k < acts.length by omega)
    rw [plN_succ hx]
    exact ⟨rmOk_do h1 (hall k _ hx) hx hall, canInv_step h2 h1 (plN_len c acts k) hx (hall k _ hx)⟩
theorem play_ok {c : Crew} {acts : List Acn} (h : playE c acts = 0) : CrewOk c ∧ acts.length ≤ 60 ∧ ∀ (j : Nat) y, acts[j]? = some y → ActOk c j y := by
  unfold playE at h
  split at h
  · rename_i h1; exact absurd h h1
  split at h
  · cases h
  · rename_i h1 h2
    refine ⟨crewOk_of (Classical.not_not.1 h1), by omega, fun j y hy => ?_⟩
    have := firstA_ok h j y hy
    rwa [Int.zero_add] at this
theorem cancelled {c : Crew} {acts : List Acn} (h : playE c acts = 0) {i : Nat} {x : Acn} {o : Ord} {w : Int} (hx : acts[i]? = some x) (hd : x.dw = 6) (hw : (playL c acts)[i]? = some w) (h0 : w = 0) (ho : o ∈ playO c acts) : o.giv ≠ x.what := by
  obtain ⟨hc, _, hall⟩ := play_ok h
  obtain ⟨_, h2⟩ := plN_inv hc hall acts.length (Nat.le_refl _)
  have hxa := actAt_nat hx
  have e1 : playL c acts = (plN c acts acts.length).1 := if_neg (not_not_intro h)
  have e2 : playO c acts = (plN c acts acts.length).2.ords := if_neg (not_not_intro h)
  rw [e1] at hw
  rw [e2] at ho
  have hil := (List.getElem?_eq_some_iff.1 hx).1
  obtain ⟨_, _, r⟩ := h2.cn i hil (by rw [hxa]; exact hd) (by rw [getD_hit hw]; exact h0)
  rw [hxa] at r
  exact r o ho
end Bx

/- part C15 -/
namespace Bx
open Go Go.RowKit
theorem actAt_take {acts : List Acn} {k : Nat} {i : Int} (h0 : 0 ≤ i) (h : i < k) : actAt (acts.take k) i = actAt acts i := by
  unfold actAt
  rw [List.getD_eq_getElem?_getD, List.getD_eq_getElem?_getD, List.getElem?_take, if_pos (by omega)]
theorem doF_take {c : Crew} {acts : List Acn} {k : Nat} {j : Int} {x : Acn} {st : Rm} (hd : 1 ≤ x.dw ∧ x.dw ≤ 6) (h : x.dw = 5 ∨ x.dw = 6 → 0 ≤ x.what ∧ x.what < k) : doF c (acts.take k) j x st = doF c acts j x st := by
  by_cases h5 : x.dw = 5 ∨ x.dw = 6
  · have e := actAt_take (acts := acts) (h h5).1 (h h5).2
    have e1 : ∀ st, confE c (acts.take k) x st = confE c acts x st := fun st => by unfold confE; rw [e]
    have e2 : ∀ st, cancE c (acts.take k) x st = cancE c acts x st := fun st => by unfold cancE; rw [e]
    have e3 : ∀ st, confirmF c (acts.take k) j x st = confirmF c acts j x st := fun st => by unfold confirmF; rw [e1, e]
    have e4 : ∀ st, cancelF c (acts.take k) x st = cancelF c acts x st := fun st => by unfold cancelF; rw [e2]
    unfold doF doneF
    rw [e3, e4]
  · unfold doF doneF
    by_cases h1 : x.dw = 1
    · simp only [h1, if_pos]
    by_cases h2 : x.dw = 2
    · simp only [h2]; rfl
    by_cases h3 : x.dw = 3
    · simp only [h3]; rfl
    have h4 : x.dw = 4 := by omega
    simp only [h4]; rfl
theorem actOk_what {c : Crew} {j : Nat} {x : Acn} (h : ActOk c j x) : x.dw = 5 ∨ x.dw = 6 → 0 ≤ x.what ∧ x.what < j := fun hd => by
  have := h.what
  rw [show manyA c j x = j by unfold manyA; rw [if_neg (by omega), if_pos hd]] at this
  exact this
theorem plN_take {c : Crew} {acts : List Acn} (hall : ∀ (j : Nat) y, acts[j]? = some y → ActOk c j y) {k : Nat} (hk : k ≤ acts.length) : ∀ j, j ≤ k → plN c (acts.take k) j = plN c acts j
  | 0, _ => rfl
  | j + 1, hj => by
    have hx := List.getElem?_eq_getElem (show j < acts.length by omega)
    have hx' : (acts.take k)[j]? = some acts[j] := by rw [List.getElem?_take, if_pos (by omega)]; exact hx
    have ha := hall j _ hx
    rw [plN_succ hx, plN_succ hx', plN_take hall hk j (by omega), doF_take ha.dw (fun h => by have := actOk_what ha h; omega)]
theorem firstA_take {c : Crew} : ∀ (l : List Acn) (i : Int) (k : Nat), firstA c l i = 0 → firstA c (l.take k) i = 0
  | [], _, k, _ => by simp [firstA]
  | a :: l, i, 0, _ => rfl
  | a :: l, i, k + 1, h => by
    unfold firstA at h
    split at h
    · rename_i h1; exact absurd h h1
    · rename_i h1
      rw [List.take_succ_cons, firstA, if_neg h1]
      exact firstA_take l (i + 1) k h
theorem playE_take {c : Crew} {acts : List Acn} (h : playE c acts = 0) (k : Nat) : playE c (acts.take k) = 0 := by
  unfold playE at h ⊢
  split at h
  · rename_i h1; exact absurd h h1
  split at h
  · cases h
  · rename_i h1 h2
    rw [if_neg h1, if_neg (by rw [List.length_take]; omega)]
    exact firstA_take acts 0 k h
/-- What an act adds to the orders that took effect. -/
theorem doF_grow (c : Crew) (acts : List Acn) (k : Int) (x : Acn) (st : Rm) : (doF c acts k x st).2.ords = st.ords ∨ ∃ o, (doF c acts k x st).2.ords = st.ords ++ [o] ∧ (o.giv = k ∨ o.conf = k) := by
  unfold doF
  split
  · exact .inl rfl
  split
  · exact .inl rfl
  unfold doneF
  split
  · unfold takeF; split <;> exact .inl rfl
  split
  · unfold giveF; split <;> exact .inl rfl
  split
  · unfold giveF; split <;> exact .inl rfl
  split
  · unfold orderF
    simp only []
    split
    · exact .inl rfl
    split
    · exact .inl rfl
    split
    · exact .inl rfl
    · exact .inr ⟨_, rfl, .inl rfl⟩
  split
  · unfold confirmF
    split
    · exact .inl rfl
    · exact .inr ⟨_, rfl, .inr rfl⟩
  · unfold cancelF; split <;> exact .inl rfl
theorem plN_grow {c : Crew} {acts : List Acn} (k : Nat) : ∀ d : Nat, k + d ≤ acts.length → (∃ q, (plN c acts (k + d)).1 = (plN c acts k).1 ++ q) ∧ ∃ r, (plN c acts (k + d)).2.ords = (plN c acts k).2.ords ++ r ∧ ∀ o ∈ r, (k : Int) ≤ o.giv ∨ (k : Int) ≤ o.conf
  | 0, _ => ⟨⟨[], by simp⟩, [], by simp, fun o ho => (List.not_mem_nil ho).elim⟩
  | d + 1, hd => by
    obtain ⟨⟨q, hq⟩, r, hr, hb⟩ := plN_grow (c := c) (acts := acts) k d (by omega)
    have hx := List.getElem?_eq_getElem (show k + d < acts.length by omega)
    rw [show k + (d + 1) = k + d + 1 by omega, plN_succ hx]
    refine ⟨⟨q ++ [(doF c acts ((k + d : Nat) : Int) acts[k + d] (plN c acts (k + d)).2).1], by rw [hq]; simp⟩, ?_⟩
    rcases doF_grow c acts ((k + d : Nat) : Int) acts[k + d] (plN c acts (k + d)).2 with h | ⟨o, h, ho⟩
    · exact ⟨r, by rw [h]; exact hr, hb⟩
    · refine ⟨r ++ [o], by rw [h, hr]; simp, fun o' ho' => ?_⟩
      rcases List.mem_append.1 ho' with h' | h'
      · exact hb o' h'
      · obtain rfl := List.mem_singleton.1 h'
        omega
theorem prefixed {c : Crew} {acts : List Acn} (h : playE c acts = 0) {k : Nat} (hk : k ≤ acts.length) :
    playE c (acts.take k) = 0 ∧ playL c (acts.take k) = (playL c acts).take k ∧ ∃ r, playO c acts = playO c (acts.take k) ++ r ∧ ∀ o ∈ r, (k : Int) ≤ max o.giv o.conf := by
  obtain ⟨hc, _, hall⟩ := play_ok h
  have h' := playE_take h k
  have hkk : k + (acts.length - k) ≤ acts.length := by omega
  have hl : (acts.take k).length = k := by rw [List.length_take]; omega
  have e : plN c (acts.take k) k = plN c acts k := plN_take hall hk k (Nat.le_refl _)
  obtain ⟨⟨q, hq⟩, r, hr, hb⟩ := plN_grow (c := c) (acts := acts) k (acts.length - k) hkk
  rw [show k + (acts.length - k) = acts.length by omega] at hq hr
  unfold playL playO
  rw [if_neg (not_not_intro h), if_neg (not_not_intro h'), if_neg (not_not_intro h), if_neg (not_not_intro h'), hl, e]
  refine ⟨h', ?_, r, hr, fun o ho => by have := hb o ho; omega⟩
  rw [hq, List.take_left' (plN_len c acts k)]
end Bx

/- part C16 -/
namespace Bx
open Go Go.RowKit
/-- What an act does to the keys. -/
inductive Mov (c : Crew) (x : Acn) (st : Rm) : Int × Rm → Prop
  | same {F : Int × Rm} (h : F.2.hold = st.hold) : Mov c x st F
  | moved {F : Int × Rm} (v : Int) (h : F.2.hold = st.hold.set x.what.toNat v) (h0 : F.1 = 0) (hd : x.dw = 1 ∨ x.dw = 2 ∨ x.dw = 3) (hw : holdAt st.hold x.what = x.who ∨ holdAt st.hold x.what < 0 ∨ onB c (holdAt st.hold x.what) x.tm = false) : Mov c x st F
theorem doF_mov (c : Crew) (acts : List Acn) (k : Int) (x : Acn) (st : Rm) : Mov c x st (doF c acts k x st) := by
  unfold doF
  split
  · exact .same rfl
  split
  · exact .same rfl
  unfold doneF
  split
  · rename_i h1
    unfold takeF
    split
    · exact .same rfl
    · rename_i h2
      refine .moved x.who rfl rfl (.inl h1) ?_
      simp only [Bool.not_eq_false, Bool.or_eq_true, decide_eq_true_eq, Bool.not_eq_true'] at h2
      exact .inr h2
  split
  · rename_i h1
    unfold giveF
    split
    · exact .same rfl
    · rename_i h2
      exact .moved _ rfl rfl (.inr (.inl h1)) (.inl (Classical.not_not.1 h2))
  split
  · rename_i h1
    unfold giveF
    split
    · exact .same rfl
    · rename_i h2
      exact .moved _ rfl rfl (.inr (.inr h1)) (.inl (Classical.not_not.1 h2))
  split
  · unfold orderF
    simp only []
    split
    · exact .same rfl
    split
    · exact .same rfl
    split <;> exact .same rfl
  split
  · unfold confirmF; split <;> exact .same rfl
  · unfold cancelF; split <;> exact .same rfl
/-- The keys after the first k acts. -/
abbrev keysN (c : Crew) (acts : List Acn) (k : Nat) : List Int := (plN c acts k).2.hold
theorem playK_take {c : Crew} {acts : List Acn} (h : playE c acts = 0) {k : Nat} (hk : k ≤ acts.length) : playK c (acts.take k) = keysN c acts k := by
  obtain ⟨hc, _, hall⟩ := play_ok h
  unfold playK
  rw [if_neg (not_not_intro (playE_take h k)), show (acts.take k).length = k by rw [List.length_take]; omega, plN_take hall hk k (Nat.le_refl _)]
theorem keysN_ok {c : Crew} {acts : List Acn} (h : playE c acts = 0) {k : Nat} (hk : k ≤ acts.length) : (keysN c acts k).length = c.keys.length ∧ ∀ y ∈ keysN c acts k, -1 ≤ y ∧ y < c.ops.length := by
  obtain ⟨hc, _, hall⟩ := play_ok h
  obtain ⟨h1, _⟩ := plN_inv hc hall k hk
  exact ⟨h1.len, h1.hold⟩
theorem playL_len {c : Crew} {acts : List Acn} (h : playE c acts = 0) : (playL c acts).length = acts.length := by
  unfold playL; rw [if_neg (not_not_intro h), plN_len]
theorem playL_get {c : Crew} {acts : List Acn} (h : playE c acts = 0) {i : Nat} {x : Acn} (hx : acts[i]? = some x) : (playL c acts)[i]? = some (doF c acts i x (plN c acts i).2).1 := by
  have hi := (List.getElem?_eq_some_iff.1 hx).1
  obtain ⟨⟨q, hq⟩, _⟩ := plN_grow (c := c) (acts := acts) (i + 1) (acts.length - (i + 1)) (by omega)
  unfold playL
  rw [if_neg (not_not_intro h)]
  rw [show i + 1 + (acts.length - (i + 1)) = acts.length by omega, plN_succ hx] at hq
  rw [hq, List.append_assoc, List.getElem?_append_right (by rw [plN_len]; exact Nat.le_refl _), plN_len, Nat.sub_self]
  rfl
theorem key_moved {c : Crew} {acts : List Acn} (h : playE c acts = 0) {i k : Nat} {x : Acn} {y z : Int} (hx : acts[i]? = some x) (hy : (keysN c acts (i + 1))[k]? = some y) (hz : (keysN c acts i)[k]? = some z) (hne : y ≠ z) :
    (playL c acts)[i]? = some 0 ∧ x.what = k ∧ (x.dw = 1 ∨ x.dw = 2 ∨ x.dw = 3) ∧ (x.who = z ∨ z < 0 ∨ onB c z x.tm = false) := by
  obtain ⟨hc, _, hall⟩ := play_ok h
  have ha := hall i x hx
  rw [playL_get h hx]
  unfold keysN at hy
  rw [plN_succ hx] at hy
  cases doF_mov c acts i x (plN c acts i).2 with
  | same e => 
    exfalso
    simp only [e] at hy
    rw [show (plN c acts i).2.hold = keysN c acts i from rfl, hz] at hy
    exact hne (Option.some.inj hy).symm
  | moved v e h0 hd hw =>
    simp only [e] at hy
    have hkk : x.what.toNat = k := by
      apply Classical.byContradiction
      intro hn
      rw [List.getElem?_set_ne hn, show (plN c acts i).2.hold = keysN c acts i from rfl, hz] at hy
      exact hne (Option.some.inj hy).symm
    have h0w := ha.what.1
    have hat : holdAt (plN c acts i).2.hold x.what = z := by
      unfold holdAt
      rw [hkk]
      exact getD_hit hz
    rw [hat] at hw
    exact ⟨by rw [h0], by omega, hd, by rcases hw with hw | hw; exact .inl hw.symm; exact .inr hw⟩
/-! ### who fits -/
def fitsB (c : Crew) (who m g : Int) : Bool := decide ((onF c who m).2 = 0) && (onF c who m).1 && decide (0 ≤ who) && decide (who < c.ops.length) && decide (g ≤ gradeOf c who)
theorem onF_ok {c : Crew} {who m : Int} (hc : (checkC c).2.2 = 0) (hw : 0 ≤ who ∧ who < c.ops.length) (hm : 0 ≤ m ∧ m ≤ 100000) : onF c who m = (onB c who m, 0) := by
  have : onE c who m = 0 := by
    unfold onE
    rw [if_neg (not_not_intro hc), if_neg (by rw [Bool.not_eq_true, outB_false]; omega), if_neg (by rw [Bool.not_eq_true, neverB, outB_false]; exact hm)]
  unfold onF
  rw [if_neg (not_not_intro this)]
theorem fitsB_ok {c : Crew} {who m g : Int} (hc : (checkC c).2.2 = 0) (hw : 0 ≤ who ∧ who < c.ops.length) (hm : 0 ≤ m ∧ m ≤ 100000) : fitsB c who m g = (onB c who m && decide (g ≤ gradeOf c who)) := by
  unfold fitsB
  rw [onF_ok hc hw hm, decide_eq_true hw.1, decide_eq_true hw.2]
  simp
theorem playE_chk {c : Crew} {acts : List Acn} (h : playE c acts = 0) : (checkC c).2.2 = 0 := by
  unfold playE at h
  split at h
  · rename_i h1; exact absurd h h1
  · rename_i h1; exact Classical.not_not.1 h1
end Bx

/- part C17 -/
namespace Bx
open Go Go.RowKit
theorem idxI_one {a h : Int} : 0 ≤ idxI [a] h ↔ h = a := by
  unfold idxI idxF idxF
  by_cases e : h = a <;> simp [e]
theorem idxI_two {a b h : Int} : 0 ≤ idxI [a, b] h ↔ h = a ∨ h = b := by
  unfold idxI idxF idxF idxF
  by_cases e : h = a
  · simp [e]
  · by_cases e2 : h = b
    · simp only [decide_eq_true_eq, if_neg e, if_pos e2]
      exact ⟨fun _ => .inr e2, fun _ => by decide⟩
    · simp [e, e2]
theorem allH_one {hold ks : List Int} {a : Int} : allH hold [a] ks = true ↔ ∀ n ∈ ks, holdAt hold n = a := by
  unfold allH
  simp only [List.all_eq_true, decide_eq_true_eq, idxI_one]
theorem allH_two {hold ks : List Int} {a b : Int} : allH hold [a, b] ks = true ↔ ∀ n ∈ ks, holdAt hold n = a ∨ holdAt hold n = b := by
  unfold allH
  simp only [List.all_eq_true, decide_eq_true_eq, idxI_two]
theorem stepH_two (hold : List Int) (a b e0 e1 k : Int) : stepH hold [a, b] [e0, e1] k = if holdAt hold k = a then [e0 + 1, e1] else if holdAt hold k = b then [e0, e1 + 1] else [e0, e1] := by
  unfold stepH idxI idxF idxF idxF
  by_cases e : holdAt hold k = a
  · simp [e]
  · by_cases e2 : holdAt hold k = b
    · simp only [decide_eq_true_eq, if_neg e, if_pos e2]
      rfl
    · simp [e, e2]
def cntA (hold : List Int) (a : Int) (ks : List Int) : Nat := (ks.filter fun k => decide (holdAt hold k = a)).length
theorem foldH_two (hold : List Int) (a b : Int) (hne : a ≠ b) : ∀ (ks : List Int) (e0 e1 : Int), ks.foldl (stepH hold [a, b]) [e0, e1] = [e0 + cntA hold a ks, e1 + cntA hold b ks]
  | [], e0, e1 => by simp [cntA]
  | k :: ks, e0, e1 => by
    rw [List.foldl_cons, stepH_two]
    by_cases e : holdAt hold k = a
    · have e' : ¬ holdAt hold k = b := fun h => hne (e.symm.trans h)
      rw [if_pos e, foldH_two hold a b hne ks]
      have c1 : cntA hold a (k :: ks) = cntA hold a ks + 1 := by unfold cntA; rw [List.filter_cons_of_pos (by simpa using e)]; rfl
      have c2 : cntA hold b (k :: ks) = cntA hold b ks := by unfold cntA; rw [List.filter_cons_of_neg (by simpa using e')]
      rw [c1, c2, show e0 + 1 + (cntA hold a ks : Int) = e0 + ((cntA hold a ks + 1 : Nat) : Int) by omega]
    · rw [if_neg e]
      have c1 : cntA hold a (k :: ks) = cntA hold a ks := by unfold cntA; rw [List.filter_cons_of_neg (by simpa using e)]
      by_cases e2 : holdAt hold k = b
      · rw [if_pos e2, foldH_two hold a b hne ks]
        have c2 : cntA hold b (k :: ks) = cntA hold b ks + 1 := by unfold cntA; rw [List.filter_cons_of_pos (by simpa using e2)]; rfl
        rw [c1, c2, show e1 + 1 + (cntA hold b ks : Int) = e1 + ((cntA hold b ks + 1 : Nat) : Int) by omega]
      · rw [if_neg e2, foldH_two hold a b hne ks]
        have c2 : cntA hold b (k :: ks) = cntA hold b ks := by unfold cntA; rw [List.filter_cons_of_neg (by simpa using e2)]
        rw [c1, c2]
theorem cntA_pos {hold : List Int} {a : Int} {ks : List Int} : 0 < cntA hold a ks ↔ ∃ n ∈ ks, holdAt hold n = a := by
  unfold cntA
  rw [List.length_pos_iff_exists_mem]
  constructor
  · rintro ⟨n, hn⟩
    obtain ⟨h1, h2⟩ := List.mem_filter.1 hn
    exact ⟨n, h1, by simpa using h2⟩
  · rintro ⟨n, h1, h2⟩
    exact ⟨n, List.mem_filter.2 ⟨h1, by simpa using h2⟩⟩
theorem split_two {hold ks : List Int} {a b : Int} (hne : a ≠ b) : 0 < minL (foldH hold [a, b] ks) ↔ (∃ n ∈ ks, holdAt hold n = a) ∧ ∃ n ∈ ks, holdAt hold n = b := by
  have e : foldH hold [a, b] ks = [0 + (cntA hold a ks : Int), 0 + (cntA hold b ks : Int)] := foldH_two hold a b hne ks 0 0
  rw [e, ← cntA_pos, ← cntA_pos]
  show 0 < min _ _ ↔ _
  omega
/-! ### what a kind is -/
theorem kndAt_ok {c : Crew} (hc : CrewOk c) {i : Int} (h : 0 ≤ i ∧ i < c.kinds.length) : KndOk c.keys.length (kndAt c i) := by
  obtain ⟨k, rfl⟩ := Int.eq_ofNat_of_zero_le h.1
  have hx := List.getElem?_eq_getElem (show k < c.kinds.length by omega)
  rw [kndAt_hit rfl hx]
  exact kndOk_of (hc.kinds _ (List.mem_of_getElem? hx))
/-! ### the orders -/
structure GivOk (c : Crew) (acts : List Acn) (k : Int) (j : Int) : Prop where
  at_ : 0 ≤ j ∧ j < k
  dw : (actAt acts j).dw = 4
  what : 0 ≤ (actAt acts j).what ∧ (actAt acts j).what < c.kinds.length
  on : onB c (actAt acts j).who (actAt acts j).tm = true
  grade : (kndAt c (actAt acts j).what).grade ≤ gradeOf c (actAt acts j).who
theorem GivOk.up {c : Crew} {acts : List Acn} {k k' j : Int} (h : GivOk c acts k j) (hk : k ≤ k') : GivOk c acts k' j := ⟨⟨h.at_.1, by have := h.at_; omega⟩, h.dw, h.what, h.on, h.grade⟩
inductive ConfOk (c : Crew) (acts : List Acn) (k : Int) (o : Ord) : Prop
  | one (h0 : (kndAt c o.kind).second = 0) (h1 : o.conf = -1) (h2 : o.tm = (actAt acts o.giv).tm) (h3 : ∀ n ∈ (kndAt c o.kind).keys, holdAt (keysN c acts o.giv.toNat) n = (actAt acts o.giv).who)
  | two (h0 : 0 < (kndAt c o.kind).second) (h1 : 0 ≤ o.conf ∧ o.conf < k) (h2 : o.tm = (actAt acts o.conf).tm) (h3 : (actAt acts o.conf).dw = 5) (h4 : (actAt acts o.conf).what = o.giv) (h5 : o.giv < o.conf)
      (h6 : (actAt acts o.conf).who ≠ (actAt acts o.giv).who) (h7 : onB c (actAt acts o.conf).who o.tm = true) (h8 : (kndAt c o.kind).second ≤ gradeOf c (actAt acts o.conf).who) (h9 : o.tm ≤ (actAt acts o.giv).tm + (kndAt c o.kind).within)
      (h10 : ∀ n ∈ (kndAt c o.kind).keys, holdAt (keysN c acts o.conf.toNat) n = (actAt acts o.conf).who ∨ holdAt (keysN c acts o.conf.toNat) n = (actAt acts o.giv).who)
      (h11 : (kndAt c o.kind).split = true → (∃ n ∈ (kndAt c o.kind).keys, holdAt (keysN c acts o.conf.toNat) n = (actAt acts o.conf).who) ∧ ∃ n ∈ (kndAt c o.kind).keys, holdAt (keysN c acts o.conf.toNat) n = (actAt acts o.giv).who)
structure OrdOk (c : Crew) (acts : List Acn) (k : Int) (o : Ord) : Prop where
  giv : GivOk c acts k o.giv
  kind : (actAt acts o.giv).what = o.kind
  subj : (actAt acts o.giv).subj = o.subj
  on : onB c (actAt acts o.giv).who o.tm = true
  conf : ConfOk c acts k o
theorem OrdOk.up {c : Crew} {acts : List Acn} {k k' : Int} {o : Ord} (h : OrdOk c acts k o) (hk : k ≤ k') : OrdOk c acts k' o :=
  ⟨h.giv.up hk, h.kind, h.subj, h.on, by
    cases h.conf with
    | one h0 h1 h2 h3 => exact .one h0 h1 h2 h3
    | two h0 h1 h2 h3 h4 h5 h6 h7 h8 h9 h10 h11 => exact .two h0 ⟨h1.1, by omega⟩ h2 h3 h4 h5 h6 h7 h8 h9 h10 h11⟩
structure TwoInv (c : Crew) (acts : List Acn) (k : Nat) (st : Rm) : Prop where
  opn : ∀ j ∈ st.opn, GivOk c acts k j ∧ 0 < (kndAt c (actAt acts j).what).second
  ords : ∀ o ∈ st.ords, OrdOk c acts k o ∧ o.tm ≤ st.now
  pair : st.ords.Pairwise fun a b => a.giv ≠ b.giv ∧ a.tm ≤ b.tm
theorem twoInv_mono {c : Crew} {acts : List Acn} {k : Nat} {st st' : Rm} (h : TwoInv c acts k st) (h1 : ∀ j ∈ st'.opn, j ∈ st.opn) (h2 : st'.ords = st.ords) (h3 : st.now ≤ st'.now) : TwoInv c acts (k + 1) st' :=
  ⟨fun j hj => ⟨(h.opn j (h1 j hj)).1.up (by omega), (h.opn j (h1 j hj)).2⟩, fun o ho => by rw [h2] at ho; exact ⟨(h.ords o ho).1.up (by omega), by have := (h.ords o ho).2; omega⟩, by rw [h2]; exact h.pair⟩
theorem twoInv_add {c : Crew} {acts : List Acn} {k : Nat} {st st' : Rm} {o : Ord} (h : TwoInv c acts k st) (h1 : ∀ j ∈ st'.opn, j ∈ st.opn) (h2 : st'.ords = st.ords ++ [o]) (h3 : st.now ≤ st'.now) (h4 : st'.now = o.tm) (h5 : ∀ o' ∈ st.ords, o'.giv ≠ o.giv) (ho : OrdOk c acts ((k + 1 : Nat) : Int) o) : TwoInv c acts (k + 1) st' := by
  refine ⟨fun j hj => ⟨(h.opn j (h1 j hj)).1.up (by omega), (h.opn j (h1 j hj)).2⟩, fun o' ho' => ?_, ?_⟩
  · rw [h2] at ho'
    rcases List.mem_append.1 ho' with ho' | ho'
    · exact ⟨(h.ords o' ho').1.up (by omega), by have := (h.ords o' ho').2; omega⟩
    · obtain rfl := List.mem_singleton.1 ho'
      exact ⟨ho, by omega⟩
  · rw [h2, List.pairwise_append]
    refine ⟨h.pair, List.pairwise_singleton _ _, fun a ha b hb => ?_⟩
    obtain rfl := List.mem_singleton.1 hb
    exact ⟨h5 a ha, by have := (h.ords a ha).2; omega⟩
theorem twoInv_step {c : Crew} {acts : List Acn} {k : Nat} {x : Acn} (hc : CrewOk c) (hr : RmOk c acts k (plN c acts k).2) (hci : CanInv acts k (plN c acts k).1 (plN c acts k).2) (h : TwoInv c acts k (plN c acts k).2) (hx : acts[k]? = some x) (hok : ActOk c k x) :
    TwoInv c acts (k + 1) (doF c acts k x (plN c acts k).2).2 := by
  have hxa := actAt_nat hx
  have hkeys : keysN c acts ((k : Int)).toNat = (plN c acts k).2.hold := rfl
  generalize (plN c acts k).1 = lk at hci
  generalize (plN c acts k).2 = st at hkeys hr hci h ⊢
  unfold doF
  split
  · exact twoInv_mono h (fun j hj => hj) rfl (Int.le_refl _)
  rename_i hnow
  have hnow : st.now ≤ x.tm := by omega
  split
  · exact twoInv_mono h (fun j hj => hj) rfl hnow
  rename_i hduty
  have hon : onB c x.who x.tm = true := by
    unfold dutyA at hduty
    simp only [Bool.not_eq_false, Bool.and_eq_true] at hduty
    exact hduty.1
  unfold doneF
  split
  · unfold takeF; split <;> exact twoInv_mono h (fun j hj => hj) rfl hnow
  split
  · unfold giveF; split <;> exact twoInv_mono h (fun j hj => hj) rfl hnow
  split
  · unfold giveF; split <;> exact twoInv_mono h (fun j hj => hj) rfl hnow
  split
  · rename_i h4
    have hwh := hok.what
    rw [show manyA c k x = c.kinds.length from if_pos h4] at hwh
    unfold orderF
    simp only []
    split
    · exact twoInv_mono h (fun j hj => hj) rfl hnow
    rename_i hgr
    have hG : GivOk c acts ((k + 1 : Nat) : Int) (k : Int) := ⟨by omega, by rw [hxa]; exact h4, by rw [hxa]; exact hwh, by rw [hxa]; exact hon, by rw [hxa]; omega⟩
    split
    · rename_i hs
      refine ⟨fun j hj => ?_, fun o ho => ⟨(h.ords o ho).1.up (by omega), by have := (h.ords o ho).2; show o.tm ≤ x.tm; omega⟩, h.pair⟩
      rcases List.mem_append.1 hj with hj | hj
      · exact ⟨(h.opn j hj).1.up (by omega), (h.opn j hj).2⟩
      · obtain rfl := List.mem_singleton.1 hj
        exact ⟨hG, by rw [hxa]; exact hs⟩
    split
    · exact twoInv_mono h (fun j hj => hj) rfl hnow
    · rename_i hs hal
      have hal : allH st.hold [x.who] (kndAt c x.what).keys = true := by simpa using hal
      have hko := kndAt_ok hc hwh
      refine twoInv_add (o := ⟨k, -1, x.what, x.subj, x.tm⟩) h (fun j hj => hj) rfl hnow rfl (fun o' ho' => ?_) ⟨hG, by rw [hxa], by rw [hxa], by rw [hxa]; exact hon, .one ?_ rfl (by rw [hxa]) (fun n hn => ?_)⟩
      · have := (hr.ords o' ho').1.2
        show o'.giv ≠ (k : Int)
        omega
      · have := hko.second; show (kndAt c x.what).second = 0; omega
      · rw [hxa]
        show holdAt (keysN c acts ((k : Int)).toNat) n = x.who
        rw [hkeys]
        exact allH_one.1 hal n hn
  split
  · rename_i h5
    unfold confirmF
    split
    · exact twoInv_mono h (fun j hj => hj) rfl hnow
    · rename_i h0
      have hce := Classical.not_not.1 h0
      have hm := confE_mem hce
      obtain ⟨hgo, hsec⟩ := h.opn _ hm
      have hm' : x.what ∈ st.opn := hm
      unfold confE at hce
      simp only [] at hce
      split at hce
      · cases hce
      split at hce
      · cases hce
      split at hce
      · cases hce
      split at hce
      · cases hce
      split at hce
      · cases hce
      split at hce
      · cases hce
      rename_i e1 e2 e3 e4 e5 e6
      simp only [Bool.not_eq_false, Bool.and_eq_true, Bool.or_eq_true, Bool.not_eq_true', decide_eq_true_eq] at e6
      have hne : x.who ≠ (actAt acts x.what).who := e3
      refine twoInv_add (o := ⟨x.what, k, (actAt acts x.what).what, (actAt acts x.what).subj, x.tm⟩) h (fun j hj => List.mem_of_mem_erase hj) rfl hnow rfl (fun o' ho' e => ?_) ⟨hgo.up (by omega), rfl, rfl, ?_, .two ?_ ?_ ?_ ?_ ?_ ?_ ?_ ?_ ?_ ?_ (fun n hn => ?_) (fun hs => ?_)⟩
      · exact hci.ap o' ho' (by rw [e]; exact hm')
      · simpa using e5
      · exact hsec
      · show (0 : Int) ≤ (k : Int) ∧ (k : Int) < _; omega
      · show x.tm = (actAt acts (k : Int)).tm; rw [hxa]
      · show (actAt acts (k : Int)).dw = 5; rw [hxa]; exact h5
      · show (actAt acts (k : Int)).what = x.what; rw [hxa]
      · have := hgo.at_; show x.what < (k : Int); omega
      · show (actAt acts (k : Int)).who ≠ _; rw [hxa]; exact hne
      · show onB c (actAt acts (k : Int)).who x.tm = true; rw [hxa]; exact hon
      · show (kndAt c (actAt acts x.what).what).second ≤ gradeOf c (actAt acts (k : Int)).who; rw [hxa]; omega
      · show x.tm ≤ (actAt acts x.what).tm + (kndAt c (actAt acts x.what).what).within; omega
      · show holdAt (keysN c acts ((k : Int)).toNat) n = (actAt acts (k : Int)).who ∨ holdAt (keysN c acts ((k : Int)).toNat) n = _
        rw [hxa, hkeys]
        exact allH_two.1 e6.1 n hn
      · show (∃ n ∈ _, holdAt (keysN c acts ((k : Int)).toNat) n = (actAt acts (k : Int)).who) ∧ ∃ n ∈ _, holdAt (keysN c acts ((k : Int)).toNat) n = _
        rw [hxa, hkeys]
        refine (split_two hne).1 ?_
        rcases e6.2 with e | e
        · have hs' : (kndAt c (actAt acts x.what).what).split = true := hs
          rw [hs'] at e; cases e
        · exact e
  · unfold cancelF
    split
    · exact twoInv_mono h (fun j hj => hj) rfl hnow
    · exact twoInv_mono h (fun j hj => List.mem_of_mem_erase hj) rfl hnow
theorem plN_two {c : Crew} {acts : List Acn} (hc : CrewOk c) (hall : ∀ (j : Nat) y, acts[j]? = some y → ActOk c j y) : ∀ k, k ≤ acts.length → TwoInv c acts k (plN c acts k).2
  | 0, _ => ⟨fun j hj => (List.not_mem_nil hj).elim, fun o ho => (List.not_mem_nil ho).elim, List.Pairwise.nil⟩
  | k + 1, hk => by
    have h1 := plN_two hc hall k (by omega)
    obtain ⟨h2, h3⟩ := plN_inv hc hall k (by omega)
    have hx := List.getElem?_eq_getElem (show k < acts.length by omega)
    rw [plN_succ hx]
    exact twoInv_step hc h2 h3 h1 hx (hall k _ hx)
theorem two_ok {c : Crew} {acts : List Acn} (h : playE c acts = 0) : (∀ o ∈ playO c acts, OrdOk c acts acts.length o) ∧ (playO c acts).Pairwise fun a b => a.giv ≠ b.giv ∧ a.tm ≤ b.tm := by
  obtain ⟨hc, _, hall⟩ := play_ok h
  have hi := plN_two hc hall acts.length (Nat.le_refl _)
  unfold playO
  rw [if_neg (not_not_intro h)]
  exact ⟨fun o ho => (hi.ords o ho).1, hi.pair⟩
end Bx

/- part LibA -/
namespace Bx
open Go Go.RowKit
section
variable {P : Program} {ρ : Operand → Value} {w : World} {ty : TypeId}
/-- The first i parts of a slice. -/
theorem yTo {T E : TypeId} {x xi : Operand} {a : Option Addr} {cap i k m : Nat} {kd : IntKind} (hx : ρ x = .slice a m cap) (hi : ρ xi = .int kd (i : Int)) (hu : P.underlying T = some (.slice E)) (hs : ∀ w, (Go.sizeOf E).run P w = .ok k w) (hm : i ≤ cap) :
    Y P ρ (.slice T x none (some xi) none) ty w (.slice a i cap) w := by
  have hb : (0 : Int) ≤ (i : Int) ∧ (i : Int) ≤ (cap : Int) := ⟨by omega, by omega⟩
  have h1 : (if cap = 0 then a else a.map (·.add (0 * k))) = a := by
    cases a with
    | none => simp
    | some ad => simp [Addr.add]
  simp only [Y, xop, execOp, Option.map_some, Option.map_none, hx, hi, Instr.sliceAt, run_underlying hu, Sem.run_bind, Result.andThen_ok, Instr.slice, Instr.sliceBounds, Instr.sliceBound, asIntOf, Sem.run_pure, Sem.run_ite, hb, and_self, if_true, hs, Int.toNat_natCast, h1, Nat.sub_zero]
end
theorem Sl.take {α : Type} {w : World} {k : Nat} {R : World → List Value → α → Prop} {a : Option Addr} {n cap i : Nat} {l : List α} (h : Sl w k R (.slice a n cap) l) (hi : i ≤ n) : Sl w k R (.slice a i cap) (l.take i) := by
  obtain ⟨a', cap', hv, h1, h2, h3⟩ := h
  simp only [Value.slice.injEq] at hv
  obtain ⟨rfl, rfl, rfl⟩ := hv
  have hl : (l.take i).length = i := by rw [List.length_take]; omega
  refine ⟨a, cap, by rw [hl], by omega, h2, fun j hj => ?_⟩
  have hj' : j < l.length := by omega
  obtain ⟨b, o, cs, ha, hlc, hc, hr⟩ := h3 j hj'
  exact ⟨b, o, cs, ha, hlc, hc, by rw [List.getElem_take]; exact hr⟩
theorem Sl.len {α : Type} {w : World} {k : Nat} {R : World → List Value → α → Prop} {a : Option Addr} {n cap : Nat} {l : List α} (h : Sl w k R (.slice a n cap) l) : l.length = n := by
  obtain ⟨a', cap', hv, h1, h2, h3⟩ := h
  simp only [Value.slice.injEq] at hv
  exact hv.2.1.symm
end Bx

/- part LibP -/
namespace Bx
open Go Go.RowKit
/-- Several parts as one. -/
def packI (L : List Item) : Item where
  fp := fps L
  ok := fun w => ∀ it ∈ L, it.ok w
  loc := fun w w' h hw it hi => it.loc w w' (fun b hb => h b (List.mem_flatMap.2 ⟨it, hi, hb⟩)) (hw it hi)
  here := fun w hw b hb => by
    obtain ⟨it, hi, hb⟩ := List.mem_flatMap.1 hb
    exact it.here w (hw it hi) b hb
theorem fps_app (L M : List Item) : fps (L ++ M) = fps L ++ fps M := by simp [fps]
theorem fps_pack (M L : List Item) : fps (packI M :: L) = fps (M ++ L) := by rw [fps_app]; rfl
theorem StX.pack {S : List Nat} {w0 w : World} {M L : List Item} (h : StX S w0 w (M ++ L)) : StX S w0 w (packI M :: L) :=
  ⟨h.extx, fun it hi => by
    rcases List.mem_cons.1 hi with rfl | hi
    · exact fun j hj => h.ok j (List.mem_append_left _ hj)
    · exact h.ok it (List.mem_append_right _ hi), by rw [fps_pack]; exact h.own, by rw [fps_pack]; exact h.apart⟩
theorem StX.unpack {S : List Nat} {w0 w : World} {M L : List Item} (h : StX S w0 w (packI M :: L)) : StX S w0 w (M ++ L) := by
  have h2 := h.own
  have h3 := h.apart
  rw [fps_pack] at h2 h3
  exact ⟨h.extx, fun it hi => by
    rcases List.mem_append.1 hi with hi | hi
    · exact h.ok (packI M) (List.mem_cons_self ..) it hi
    · exact h.ok it (List.mem_cons_of_mem _ hi), h2, h3⟩
/-- One part more is packed. -/
theorem StX.packs {S : List Nat} {w0 w : World} {M L : List Item} {x : Item} (h : StX S w0 w (x :: packI M :: L)) : StX S w0 w (packI (M ++ [x]) :: L) := by
  have h1 : StX S w0 w (packI M :: x :: L) := h.perm (.swap _ _ _)
  have h2 : StX S w0 w ((M ++ [x]) ++ L) := by rw [List.append_assoc]; exact h1.unpack
  exact h2.pack
/-- What holds of a packed part. -/
theorem StX.inpack {S : List Nat} {w0 w : World} {M L : List Item} (h : StX S w0 w L) (hp : packI M ∈ L) {it : Item} (hi : it ∈ M) : it.ok w := h.ok _ hp it hi
section
variable {P : Program} {ρ : Operand → Value} {w : World} {ty : TypeId}
/-- Appending a slice without parts. -/
theorem yApp0 {t e : TypeId} {x y : Operand} {a b : Option Addr} {n cap c k : Nat} (hx : ρ x = .slice a n cap) (hy : ρ y = .slice b 0 c) (ht : P.underlying t = some (.slice e)) (hs : ∀ w, (Go.sizeOf e).run P w = .ok k w) (hn : n ≤ cap) :
    Y P ρ (.call ⟨.builtin .append, #[x, y], #[t, t]⟩) ty w (.slice a n cap) w := by
  have h0 : n + 0 ≤ cap := hn
  simp only [Y, xop, execOp, resolve, invoke, builtin, Builtin.append_, List.map_toArray, List.map_cons, List.map_nil, hx, hy]
  cases a <;> cases b <;> simp [run_underlying ht, hs, Builtin.lenOf, Builtin.firstCells, loadCells, loadCellsFrom, storeCells, hn]
end
abbrev wr (n : Int) : Int := IntKind.i64.wrap n
theorem wr_64 (n : Int) : I64 (wr n) := by unfold wr I64; rw [IntKind.wrap_i64]; omega
theorem wr_in {n : Int} (h : I64 n) : wr n = n := wrap_in h

theorem flatten_set {k : Nat} {vs : List Value} : ∀ (css : List (List Value)) (i j : Nat) (cs : List Value), (∀ c ∈ css, c.length = k) → css[i]? = some cs → j + vs.length ≤ k → splice css.flatten (i * k + j) vs = (css.set i (splice cs j vs)).flatten
  | [], i, j, cs, _, h, _ => by simp at h
  | c :: css, 0, j, cs, hl, h, hj => by
    obtain rfl : c = cs := by simpa using h
    have hc := hl c (List.mem_cons_self ..)
    rw [Nat.zero_mul, Nat.zero_add, List.set_cons_zero, List.flatten_cons, List.flatten_cons]
    unfold splice
    rw [List.take_append_of_le_length (by omega), List.drop_append_of_le_length (by omega)]
    simp only [List.append_assoc]
  | c :: css, i + 1, j, cs, hl, h, hj => by
    have hc := hl c (List.mem_cons_self ..)
    have ih := flatten_set css i j cs (fun x hx => hl x (List.mem_cons_of_mem _ hx)) (by simpa using h) hj
    rw [List.set_cons_succ, List.flatten_cons, List.flatten_cons, ← ih]
    unfold splice
    have e : (i + 1) * k + j = c.length + (i * k + j) := by rw [Nat.succ_mul]; omega
    rw [e, List.take_length_add_append, show c.length + (i * k + j) + vs.length = c.length + (i * k + j + vs.length) by omega, List.drop_length_add_append]
    simp only [List.append_assoc]
theorem Rows.lens {α : Type} {w : World} {k : Nat} {R : World → List Value → α → Prop} : ∀ {css : List (List Value)} {l : List α}, Bx.Rows w k R css l → ∀ c ∈ css, c.length = k
  | [], [], _, c, h => by cases h
  | cs :: css, x :: l, ⟨h1, _, h3⟩, c, h => by
    rcases List.mem_cons.1 h with rfl | h
    · exact h1
    · exact Rows.lens h3 c h
theorem Rows.set {α : Type} {w : World} {k : Nat} {R : World → List Value → α → Prop} {cs : List Value} {y : α} (h1 : cs.length = k) (h2 : R w cs y) : ∀ {css : List (List Value)} {l : List α} (i : Nat), Bx.Rows w k R css l → Bx.Rows w k R (css.set i cs) (l.set i y)
  | [], [], _, _ => trivial
  | c :: css, x :: l, 0, ⟨_, _, h⟩ => ⟨h1, h2, h⟩
  | c :: css, x :: l, i + 1, ⟨a, b, h⟩ => ⟨a, b, Rows.set h1 h2 i h⟩
  | [], _ :: _, _, h => h.elim
  | _ :: _, [], _, h => h.elim
/-- The i-th part of rows. -/
theorem rows_cells {α : Type} {w w' : World} {k g : Nat} {R : World → List Value → α → Prop} {css : List (List Value)} {l : List α} (hr : Bx.Rows w k R css l) (hc : Cells w' g 0 css.flatten) {i : Nat} {cs : List Value} (hi : css[i]? = some cs) (hl : i < l.length) : Cells w' g (i * k) cs := by
  obtain ⟨c, e1, e2, _, e4⟩ := hr.get i hl
  obtain rfl := Option.some.inj (hi.symm.trans e1)
  intro j u hu
  have hj : j < k := by have := (List.getElem?_eq_some_iff.1 hu).1; omega
  have := hc (i * k + j) u (by rw [e4 j hj]; exact hu)
  rwa [Nat.zero_add] at this
section
variable {P : Program} {ops : Array Oper} {Q : Exit → Act → World → Prop} {n : Nat} {f : Fr} {S : List Nat} {w0 w w' : World} {L : List Item} {rest : List Oper} {d : Nat} {ty : TypeId} {pos : String} {af : Array Edge}
/-- append(s, x..), s a slice of the call's own, x perhaps without parts. -/
theorem sappS {t e : TypeId} {i : TypeInfo} {z : Value} {size bytes : Nat} {xs' xx : Operand} {a : Option Addr} {nn cap m c l : Nat} {ax : Option Addr} {xs news : List Value} {Lf : Item → List Item} (hS : StX S w0 w L) (hv : ev n f xs' = .slice a nn cap) (hx : ev n f xx = .slice ax m c)
    (ht : P.underlying t = some (.slice e)) (hi : P.info? e = some i) (hz : i.zero = some z) (hsize : i.size = size) (hby : i.bytes = bytes) (hzs : z.cells.size = size) (hsz : 0 < size) (hsf : ∀ w, (Go.sizeOf e).run P w = .ok size w)
    [r : AtR L (.slice a nn cap) e size l xs] [j : SetR L (.slice a nn cap) Lf] (hnews : 0 < m → ∃ b o, ax = some ⟨b, o, none⟩ ∧ Cells w b o news) (hl : news.length = m * size) (h1 : news.all (·.oneCell') = true) (h63 : l + m ≤ 9223372036854775807) (hbytes : (l + m) * bytes ≤ 140737488355328)
    (h : ∀ v' w', StX S w0 w' (Lf (rowI v' e size (l + m) (xs ++ news))) → wpL P ops Q n rest (upd f d v') w') : wpL P ops Q n (⟨some d, .call ⟨.builtin .append, #[xs', xx], #[t, t]⟩, ty, pos, af, none⟩ :: rest) f w := by
  by_cases hm : 0 < m
  · obtain ⟨b, o, rfl, hc⟩ := hnews hm
    exact sapp hS hv hx ht hi hz hsize hby hzs hsz hc hl h1 h63 hbytes h
  · obtain rfl : m = 0 := by omega
    obtain rfl : news = [] := List.eq_nil_of_length_eq_zero (by omega)
    have hr := hS.row (.slice a nn cap)
    have hcap : nn ≤ cap := by
      rcases hr.2 with ⟨e1, _⟩ | ⟨g, c', cur, e1, _, _, h4, _⟩
      · simp only [Value.slice.injEq] at e1; omega
      · simp only [Value.slice.injEq] at e1
        have := row_shape hr
        obtain ⟨a2, c2, e3⟩ := this
        simp only [Value.slice.injEq] at e3
        omega
    refine sv (yApp0 hv hx ht hsf hcap) (h _ _ ?_)
    rw [Nat.add_zero, List.append_nil]
    exact hS.app hr ⟨rfl, rfl, rfl, Nat.le_refl _, fun _ _ _ => rfl⟩ (.inl rfl)
end
/-- What a slice holds, as it is written out. -/
theorem sl_news {α : Type} {w : World} {k : Nat} {R : World → List Value → α → Prop} {a : Option Addr} {cap : Nat} {l : List α} (h : Sl w k R (.slice a l.length cap) l) : ∃ css, Bx.Rows w k R css l ∧ (0 < l.length → ∃ b o, a = some ⟨b, o, none⟩ ∧ Cells w b o css.flatten) := by
  by_cases hl : 0 < l.length
  · obtain ⟨b, o, rfl⟩ : ∃ b o, a = some ⟨b, o, none⟩ := by
      obtain ⟨a2, c, e, _, _, hel⟩ := h
      obtain ⟨rfl, rfl⟩ := slice_inj e.symm
      obtain ⟨b, o, cs, ha, _⟩ := hel 0 hl
      exact ⟨b, o, ha⟩
    obtain ⟨css, h1, h2⟩ := sl_rows h l.length (Nat.le_refl _)
    rw [List.take_length] at h1
    exact ⟨css, h1, fun _ => ⟨b, o, rfl, h2⟩⟩
  · obtain rfl : l = [] := List.eq_nil_of_length_eq_zero (by omega)
    exact ⟨[], trivial, fun hh => absurd hh hl⟩
end Bx

/- part LibE -/
namespace Bx
open Go Go.RowKit
theorem flat_len {α : Type} {enc : α → List Value} {k : Nat} (hk : ∀ x, (enc x).length = k) : ∀ l : List α, (l.flatMap enc).length = l.length * k
  | [] => by simp
  | x :: l => by rw [List.flatMap_cons, List.length_append, hk, flat_len hk l, List.length_cons, Nat.succ_mul]; omega
theorem gap_outG {α : Type} {enc : α → List Value} {k : Nat} (hk : ∀ x, (enc x).length = k) {ks js l : List α} {j : Nat} {x : α} (hx : l[j]? = some x) (hne : js ≠ []) : ((ks ++ [x]) ++ (js.tail ++ [x]) ++ l.drop (j + 1)).flatMap enc = splice ((ks ++ js ++ l.drop j).flatMap enc) (ks.length * k) (enc x) := by
  obtain ⟨y, js, rfl⟩ := List.exists_cons_of_ne_nil hne
  have hd : l.drop j = x :: l.drop (j + 1) := by
    obtain ⟨h, rfl⟩ := List.getElem?_eq_some_iff.1 hx
    exact List.drop_eq_getElem_cons h
  rw [splice_enc hk _ _ _ (by simp)]
  congr 1
  rw [hd]
  simp [List.set_append]
theorem take_flatG {α : Type} {enc : α → List Value} {k : Nat} (hk : ∀ x, (enc x).length = k) (ks r : List α) : ((ks ++ r).flatMap enc).take (ks.length * k) = ks.flatMap enc := by
  rw [List.flatMap_append, List.take_left']
  exact flat_len hk ks
section
variable {P : Program} {ρ : Operand → Value} {w : World} {ty : TypeId}
/-- The parts from i to j, the room cut at m. -/
theorem ySl3 {T E : TypeId} {x xi xj xm : Operand} {a : Option Addr} {cap i j m k n : Nat} {k1 k2 k3 : IntKind} (hx : ρ x = .slice a n cap) (hi : ρ xi = .int k1 (i : Int)) (hj : ρ xj = .int k2 (j : Int)) (hm : ρ xm = .int k3 (m : Int)) (hu : P.underlying T = some (.slice E)) (hs : ∀ w, (Go.sizeOf E).run P w = .ok k w) (h1 : i ≤ j) (h2 : j ≤ m) (h3 : m ≤ cap) :
    ∃ v, Y P ρ (.slice T x (some xi) (some xj) (some xm)) ty w v w := by
  have b1 : (0 : Int) ≤ (m : Int) ∧ (m : Int) ≤ (cap : Int) := ⟨by omega, by omega⟩
  have b2 : (0 : Int) ≤ (j : Int) ∧ (j : Int) ≤ (m : Int) := ⟨by omega, by omega⟩
  have b3 : (0 : Int) ≤ (i : Int) ∧ (i : Int) ≤ (j : Int) := ⟨by omega, by omega⟩
  refine ⟨.slice (if m = i then a else a.map (·.add (i * k))) (j - i) (m - i), ?_⟩
  simp only [Y, xop, execOp, Option.map_some, Option.map_none, hx, hi, hj, hm, Instr.sliceAt, run_underlying hu, Sem.run_bind, Result.andThen_ok, Instr.slice, Instr.sliceBounds, Instr.sliceBound, asIntOf, Sem.run_pure, Sem.run_ite, b1, b2, b3, and_self, if_true, hs, Int.toNat_natCast]
/-- The parts from i to j, perhaps behind the slice's end. -/
theorem yMid {T E : TypeId} {x xi xj : Operand} {g cap i j k m : Nat} {k1 k2 : IntKind} (hx : ρ x = .slice (some ⟨g, 0, none⟩) m cap) (hi : ρ xi = .int k1 (i : Int)) (hj : ρ xj = .int k2 (j : Int)) (hu : P.underlying T = some (.slice E)) (hs : ∀ w, (Go.sizeOf E).run P w = .ok k w) (h1 : i ≤ j) (h2 : j ≤ cap) :
    Y P ρ (.slice T x (some xi) (some xj) none) ty w (tailV g cap i k j) w := by
  have b2 : (0 : Int) ≤ (j : Int) ∧ (j : Int) ≤ (cap : Int) := ⟨by omega, by omega⟩
  have b3 : (0 : Int) ≤ (i : Int) ∧ (i : Int) ≤ (j : Int) := ⟨by omega, by omega⟩
  have h1' : (⟨g, 0, none⟩ : Addr).add (i * k) = ⟨g, i * k, none⟩ := by rw [addr_add]; simp
  have h0 : ∀ a : Addr, a.add (0 * k) = a := fun a => by rw [Nat.zero_mul]; rfl
  simp only [Y, xop, execOp, Option.map_some, Option.map_none, hx, hi, hj, Instr.sliceAt, run_underlying hu, Sem.run_bind, Result.andThen_ok, Instr.slice, Instr.sliceBounds, Instr.sliceBound, asIntOf, Sem.run_pure, Sem.run_ite, b2, b3, and_self, if_true, hs, Int.toNat_natCast, tailV, h1', Option.map_some]
end
section
variable {P : Program} {ops : Array Oper} {Q : Exit → Act → World → Prop} {n : Nat} {f : Fr} {S : List Nat} {w0 w w' : World} {L : List Item} {rest : List Oper} {d : Nat} {ty : TypeId} {pos : String} {af : Array Edge}
theorem s3 {T E : TypeId} {x xi xj xm : Operand} {a : Option Addr} {cap i j m k q : Nat} {k1 k2 k3 : IntKind} (hx : ev n f x = .slice a q cap) (hi : ev n f xi = .int k1 (i : Int)) (hj : ev n f xj = .int k2 (j : Int)) (hm : ev n f xm = .int k3 (m : Int)) (hu : P.underlying T = some (.slice E)) (hs : ∀ w, (Go.sizeOf E).run P w = .ok k w) (h1 : i ≤ j) (h2 : j ≤ m) (h3 : m ≤ cap)
    (h : ∀ v, wpL P ops Q n rest (upd f d v) w) : wpL P ops Q n (⟨some d, .slice T x (some xi) (some xj) (some xm), ty, pos, af, none⟩ :: rest) f w := by
  obtain ⟨v, hv⟩ := ySl3 (ty := ty) (w := w) hx hi hj hm hu hs h1 h2 h3
  exact sv hv (h v)
/-- append(s[:i], s[j:]..), s a slice of the call's own. -/
theorem sappIn {t e : TypeId} {ti : TypeInfo} {size : Nat} {xs' xx : Operand} {g cap i j m : Nat} {xs : List Value} {Lf : Item → List Item} (hS : StX S w0 w L) (hv : ev n f xs' = .slice (some ⟨g, 0, none⟩) i cap) (hx : ev n f xx = tailV g cap j size m)
    (ht : P.underlying t = some (.slice e)) (hi : P.info? e = some ti) (hsize : ti.size = size) [r : AtR L (.slice (some ⟨g, 0, none⟩) m cap) e size m xs] [q : SetR L (.slice (some ⟨g, 0, none⟩) m cap) Lf] (hij : i ≤ j) (hjm : j ≤ m) (h1 : xs.all (·.oneCell') = true)
    (h : ∀ w', StX S w0 w' (Lf (rowI (.slice (some ⟨g, 0, none⟩) m cap) e size m (splice xs (i * size) (xs.drop (j * size))))) → wpL P ops Q n rest (upd f d (.slice (some ⟨g, 0, none⟩) (i + (m - j)) cap)) w') : wpL P ops Q n (⟨some d, .call ⟨.builtin .append, #[xs', xx], #[t, t]⟩, ty, pos, af, none⟩ :: rest) f w := by
  have hr := hS.row (.slice (some ⟨g, 0, none⟩) m cap)
  obtain ⟨hxl, hr2⟩ := id hr
  rcases hr2 with ⟨e0, _⟩ | ⟨g', cap', cur, e0, -, hg, hnc, hcm, hcs, htk⟩
  · cases e0
  obtain ⟨e1, rfl⟩ := slice_inj e0.symm
  cases e1
  subst hsize
  have hcl : cur.toList.length = cap * ti.size := by simpa using hcs
  have hmc : m * ti.size ≤ cap * ti.size := Nat.mul_le_mul_right _ hnc
  have hjs : j * ti.size ≤ m * ti.size := Nat.mul_le_mul_right _ hjm
  have his : i * ti.size ≤ j * ti.size := Nat.mul_le_mul_right _ hij
  have hnl : (xs.drop (j * ti.size)).length = (m - j) * ti.size := by rw [List.length_drop, hxl, Nat.sub_mul]
  have hsum : j * ti.size + (m - j) * ti.size = m * ti.size := by rw [← Nat.add_mul]; congr 1; omega
  obtain ⟨aa, ha, hnews⟩ : ∃ aa : Addr, (if cap = j then some ⟨g, 0, none⟩ else some ⟨g, j * ti.size, none⟩ : Option Addr) = some aa ∧ ∀ q u, (xs.drop (j * ti.size))[q]? = some u → w.cell? (aa.add q) = some u := by
    by_cases hc : cap = j
    · refine ⟨⟨g, 0, none⟩, if_pos hc, fun q u hq => ?_⟩
      have : (xs.drop (j * ti.size)).length = 0 := by rw [hnl, show m - j = 0 by omega, Nat.zero_mul]
      rw [List.getElem?_eq_none (by omega)] at hq
      cases hq
    · refine ⟨⟨g, j * ti.size, none⟩, if_neg hc, fun q u hq => ?_⟩
      rw [List.getElem?_drop] at hq
      have hc := hr.cells (g := g) rfl
      have := hc (j * ti.size + q) u hq
      rw [addr_add] at this ⊢
      simpa using this
  have hfit : i * ti.size + (xs.drop (j * ti.size)).length ≤ cur.size := by rw [hnl, hcs]; omega
  have hrun := run_append_room (P := P) w t ty e ti ht hi g i cap cur hg aa (m - j) (cap - j) (xs.drop (j * ti.size)) hnl hnews (fun u hu => List.all_eq_true.1 h1 u (List.mem_of_mem_drop hu)) (by omega) hfit
  refine sv (v := .slice (some ⟨g, 0, none⟩) (i + (m - j)) cap) (w' := w.setRow g (cur.toList.take (i * ti.size) ++ xs.drop (j * ti.size) ++ cur.toList.drop (i * ti.size + (xs.drop (j * ti.size)).length)).toArray) ?_ (h _ ?_)
  · rw [tailV, ha] at hx
    simp [Y, xop, execOp, resolve, invoke, builtin, hv, hx, hrun]
  · have hsp : cur.toList.take (i * ti.size) ++ xs.drop (j * ti.size) ++ cur.toList.drop (i * ti.size + (xs.drop (j * ti.size)).length) = splice cur.toList (i * ti.size) (xs.drop (j * ti.size)) := by simp [splice]
    rw [hsp]
    refine hS.app (v := .slice (some ⟨g, 0, none⟩) m cap) (v' := .slice (some ⟨g, 0, none⟩) m cap) ⟨?_, .inr ⟨g, cap, (splice cur.toList (i * ti.size) (xs.drop (j * ti.size))).toArray, rfl, Nat.zero_le _, setRow_heap w g cur _ e _ hg, hnc, hcm, ?_, ?_⟩⟩ ⟨rfl, rfl, rfl, by simp, fun k _ hk => setRow_other w g k _ (fun e => hk (by simp [Value.ownBlock, e]))⟩ (.inl rfl)
    · rw [splice_len _ _ _ (by rw [hxl, hnl]; omega), hxl]
    · rw [List.size_toArray, splice_len _ _ _ (by rw [hcl, hnl]; omega), hcl]
    · rw [List.toList_toArray, splice_take (by rw [hnl]; omega) (by rw [hcl]; exact hmc), htk]
variable {L' : List Item} {κ : Type} [DecidableEq κ]
/-- A part of a map's literal. -/
theorem sins (enc : κ → Value) {T K E : TypeId} {xm xk xv : Operand} {b : Nat} {m : List (κ × Value)} {k : κ} {v : Value} (hS : StX S w0 w L) (hm : ev n f xm = .map (some b)) (hx : ev n f xk = enc k) (hv : ev n f xv = v) (hT : ∀ w, (underlying T).run P w = .ok (.map K E) w)
    (hk : KeyOk P K enc) [i : AtB L b (MapOk enc m)] [j : SetB L b (MapOk enc (setM m k v)) L'] (h : ∀ w', StX S w0 w' L' → wpL P ops Q n rest f w') : wpL P ops Q n (⟨none, .insert T xm xk xv, ty, pos, af, none⟩ :: rest) f w := by
  obtain ⟨o', w', hr, hp, ho⟩ := run_mapUpdate (k := k) (v := v) hT hk (hS.is b)
  refine wpL_skip (w' := w') ?_ (h w' (hS.puts hp ho))
  simp [xop, execOp, hm, hx, hv, hr]
end
section
variable {P : Program} {ρ : Operand → Value} {w : World} {ty : TypeId}
theorem lookJ {op : Op} {g : Option Value} {b : Option Int} (h : Y P ρ op ty w (.tuple #[g.getD (.int .i64 0), .bool g.isSome]) w) (hg : g = b.map (Value.int .i64)) : Y P ρ op ty w (.tuple #[.int .i64 (b.getD 0), .bool b.isSome]) w := by
  subst hg
  cases b <;> exact h
end
end Bx

/- part C18 -/
namespace Bx
open Go Go.RowKit
theorem ops_at {c : Crew} {w : World} {a : Option Addr} {cap : Nat} (h : Sl w 3 ROpr (.slice a c.ops.length cap) c.ops) (i : Int) : ∃ b o dv, (0 ≤ i ∧ i < c.ops.length) → a = some ⟨b, o, none⟩ ∧ Cells w b (o + i.toNat * 3) [.string (oprAt c i).name, .int .i64 (gradeOf c i), dv] := by
  by_cases hi : 0 ≤ i ∧ i < c.ops.length
  · obtain ⟨a', cap', hv, h1, h2, h3⟩ := h
    simp only [Value.slice.injEq] at hv
    obtain ⟨rfl, -, rfl⟩ := hv
    obtain ⟨k, rfl⟩ := Int.eq_ofNat_of_zero_le hi.1
    obtain ⟨b, o, cs, ha, -, hc, dv, rfl, -⟩ := h3 k (by omega)
    have hx : oprAt c (k : Int) = c.ops[k]'(by omega) := by unfold oprAt; rw [Int.toNat_natCast, getD_hit (List.getElem?_eq_getElem (by omega))]
    refine ⟨b, o, dv, fun _ => ⟨ha, ?_⟩⟩
    unfold gradeOf
    rw [hx, Int.toNat_natCast]
    exact hc
  · exact ⟨0, 0, .bool false, fun h => absurd h hi⟩
instance : DecidableEq Ord := fun a b => by
  cases a; cases b
  simp only [Ord.mk.injEq]
  infer_instance
def ROrd (_ : World) (cs : List Value) (o : Ord) : Prop := cs = ordC o ∧ True
theorem ROrd.stays : Stays ROrd := fun _ _ _ _ _ h => h
theorem sl_ords {w : World} {e : TypeId} {v : Value} {n : Nat} {l : List Ord} (h : w.ownsRow 0 e 5 v n (l.flatMap ordC)) (hn : l.length = n) : Sl w 5 ROrd v l := by
  subst hn
  exact row_sl ordC_len h (fun _ _ => trivial)
theorem row_cap {w : World} {e : TypeId} {k n cap : Nat} {a : Option Addr} {xs : List Value} (h : w.ownsRow 0 e k (.slice a n cap) n xs) : n ≤ cap := by
  rcases h.2 with ⟨hv, h0⟩ | ⟨g, c, cur, hv, _, _, hc, _⟩
  · omega
  · simp only [Value.slice.injEq] at hv
    omega
theorem rep_flatI (n : Nat) : (List.replicate n [Value.int .i64 0]).flatten = (List.replicate n (0 : Int)).flatMap encI := by
  induction n with
  | zero => rfl
  | succ n ih => rw [List.replicate_succ, List.replicate_succ, List.flatten_cons, List.flatMap_cons, ih]; rfl
theorem behind {α : Type} {l m r : List α} {i : Nat} {o : α} (h : l = m ++ r) (hi : m.length ≤ i) (ho : l[i]? = some o) : o ∈ r := by
  subst h
  rw [List.getElem?_append_right hi] at ho
  exact List.mem_of_getElem? ho
theorem fitsB_def (c : Crew) (who m g : Int) : ((((decide ((onF c who m).2 = 0) && (onF c who m).1) && decide (0 ≤ who)) && decide (who < c.ops.length)) && decide (g ≤ gradeOf c who)) = fitsB c who m g := rfl
end Bx
namespace Bx
open Go Go.RowKit
theorem fits_in {p q : Bool} {who n : Int} (g : (((p && q) && decide (0 ≤ who)) && decide (who < n)) = true) : 0 ≤ who ∧ who < n := by
  simp only [Bool.and_eq_true, decide_eq_true_eq] at g
  exact ⟨g.1.2, g.2⟩
def ErrOk (l : List Int) : Prop := ∀ y ∈ l, 0 ≤ y ∧ y ≤ 1000
abbrev EB (e : Int) : Prop := 0 ≤ e ∧ e ≤ 1000
theorem confE_bd (c : Crew) (acts : List Acn) (x : Acn) (st : Rm) : EB (confE c acts x st) := by
  unfold confE
  simp only []
  repeat' split
  all_goals decide
theorem cancE_bd (c : Crew) (acts : List Acn) (x : Acn) (st : Rm) : EB (cancE c acts x st) := by
  unfold cancE
  repeat' split
  all_goals decide
theorem doF_err (c : Crew) (acts : List Acn) (k : Int) (x : Acn) (st : Rm) : EB (doF c acts k x st).1 := by
  unfold doF
  split
  · show EB 200; decide
  split
  · show EB 201; decide
  unfold doneF
  split
  · unfold takeF; split
    · show EB 202; decide
    · show EB 0; decide
  split
  · unfold giveF; split
    · show EB 202; decide
    · show EB 0; decide
  split
  · unfold giveF; split
    · show EB 202; decide
    · show EB 0; decide
  split
  · unfold orderF
    simp only []
    split
    · show EB 203; decide
    split
    · show EB 0; decide
    split
    · show EB 202; decide
    · show EB 0; decide
  split
  · unfold confirmF
    split
    · exact confE_bd ..
    · show EB 0; decide
  · unfold cancelF
    split
    · exact cancE_bd ..
    · show EB 0; decide
theorem plN_err (c : Crew) (acts : List Acn) : ∀ k, ErrOk (plN c acts k).1
  | 0 => fun y hy => (List.not_mem_nil hy).elim
  | k + 1 => fun y hy => by
    rcases List.mem_append.1 hy with h | h
    · exact plN_err c acts k y h
    · rw [List.mem_singleton.1 h]; exact doF_err _ _ _ _ _
theorem playL_bd (c : Crew) (acts : List Acn) : ∀ y ∈ playL c acts, I64 y := by
  unfold playL
  split
  · intro y hy; exact (List.not_mem_nil hy).elim
  · intro y hy; have := plN_err c acts _ y hy; exact ⟨by omega, by omega⟩
end Bx
namespace Bx
open Go Go.RowKit
theorem fitsB_on {c : Crew} {who m g : Int} (h : fitsB c who m g = true) : onB c who m = true := by
  unfold fitsB at h
  simp only [Bool.and_eq_true, decide_eq_true_eq] at h
  have h1 := h.1.1.1
  unfold onF at h1
  split at h1
  · cases h1.2
  · exact h1.2
theorem keys0 {c : Crew} {acts : List Acn} {l : List Int} {n k : Nat} (hn : n = c.keys.length) (hl : l.length = n) (hk : n ≤ k) (h : ∀ i, i < n → l[i]? = some (if i < k then (-1 : Int) else 0)) : l = keysN c acts 0 := by
  refine eq_of_get (by show l.length = (List.replicate c.keys.length (-1 : Int)).length; simp; omega) (fun i hi => ?_)
  rw [h i (by omega), if_pos (by omega)]
  show _ = (List.replicate c.keys.length (-1 : Int))[i]?
  rw [List.getElem?_replicate, if_pos (by omega)]
end Bx
namespace Bx
open Go Go.RowKit
/-- All that is known of an order that took effect: the act that gave it, its kind, the last act that it needed. -/
structure TwoF (c : Crew) (acts : List Acn) (o : Ord) (g : Acn) (x : Knd) (s : Acn) (gi ki at_ : Nat) : Prop where
  hgi : o.giv = gi
  hki : o.kind = ki
  hat : max o.giv o.conf = at_
  hg : acts[gi]? = some g
  hs : acts[at_]? = some s
  hx : c.kinds[ki]? = some x
  dw : g.dw = 4
  what : g.what = o.kind
  subj : g.subj = o.subj
  tm : s.tm = o.tm
  f1 : fitsB c g.who g.tm x.grade = true
  f2 : fitsB c g.who o.tm 0 = true
  one : x.second = 0 ↔ o.conf = -1
  two : 0 < x.second → s.dw = 5 ∧ s.what = o.giv ∧ s.who ≠ g.who ∧ fitsB c s.who o.tm x.second = true ∧ o.tm - g.tm ≤ x.within
  keys : ∀ n ∈ x.keys, (0 ≤ n ∧ n < c.keys.length) ∧ (holdAt (keysN c acts at_) n = g.who ∨ holdAt (keysN c acts at_) n = if 0 < x.second then s.who else g.who)
  split : x.split = true → (∃ n ∈ x.keys, holdAt (keysN c acts at_) n = g.who) ∧ ∃ n ∈ x.keys, holdAt (keysN c acts at_) n = if 0 < x.second then s.who else g.who
theorem two_facts {c : Crew} {acts : List Acn} (h : playE c acts = 0) {o : Ord} (ho : o ∈ playO c acts) : ∃ g x s gi ki at_, TwoF c acts o g x s gi ki at_ := by
  obtain ⟨hc, _, hall⟩ := play_ok h
  have hk0 := playE_chk h
  have hO := (two_ok h).1 o ho
  have hG := hO.giv
  have hkd : 0 ≤ o.kind ∧ o.kind < c.kinds.length := by rw [← hO.kind]; exact hG.what
  obtain ⟨gi, hgi⟩ := Int.eq_ofNat_of_zero_le hG.at_.1
  obtain ⟨ki, hki⟩ := Int.eq_ofNat_of_zero_le hkd.1
  have hgl : gi < acts.length := by have := hG.at_.2; omega
  have hg := List.getElem?_eq_getElem hgl
  have hx := List.getElem?_eq_getElem (show ki < c.kinds.length by omega)
  have eg : actAt acts o.giv = acts[gi] := by rw [hgi]; exact actAt_nat hg
  have ex : kndAt c o.kind = c.kinds[ki]'(by omega) := by rw [hki]; exact kndAt_hit rfl hx
  have hko := kndAt_ok hc hkd
  have hag := hall gi _ hg
  have hoff : fitsB c acts[gi].who acts[gi].tm (c.kinds[ki]'(by omega)).grade = true := by
    rw [fitsB_ok hk0 hag.who hag.tm, Bool.and_eq_true, decide_eq_true_eq, ← eg, ← ex]
    refine ⟨hG.on, ?_⟩
    have := hG.grade
    rw [hO.kind] at this
    exact this
  have hgr0 : (0 : Int) ≤ gradeOf c acts[gi].who := by
    have h1 := hG.grade
    rw [hO.kind, eg] at h1
    have := hko.grade
    omega
  cases hO.conf with
  | one h0 h1 h2 h3 =>
    rw [ex] at h0
    have htm : acts[gi].tm = o.tm := by rw [h2, eg]
    refine ⟨acts[gi], c.kinds[ki]'(by omega), acts[gi], gi, ki, gi, hgi, hki, by rw [h1]; omega, hg, hg, hx, by rw [← eg]; exact hG.dw, by rw [← eg]; exact hO.kind, by rw [← eg]; exact hO.subj, htm, hoff, ?_, ⟨fun _ => h1, fun _ => h0⟩, fun hp => by omega, fun n hn => ?_, fun hs => ?_⟩
    · rw [fitsB_ok hk0 hag.who (by rw [← htm]; exact hag.tm), Bool.and_eq_true, decide_eq_true_eq, ← htm]
      exact ⟨by have := hG.on; rw [eg] at this; exact this, hgr0⟩
    · rw [ex, eg, hgi] at h3
      rw [ex] at hko
      exact ⟨hko.keys n hn, .inl (h3 n hn)⟩
    · rw [ex] at hko
      exact absurd h0 (hko.split hs).1
  | two h0 h1 h2 h3 h4 h5 h6 h7 h8 h9 h10 h11 =>
    obtain ⟨ci, hci⟩ := Int.eq_ofNat_of_zero_le h1.1
    have hcl : ci < acts.length := by omega
    have hs := List.getElem?_eq_getElem hcl
    have es : actAt acts o.conf = acts[ci] := by rw [hci]; exact actAt_nat hs
    have has := hall ci _ hs
    rw [ex] at h0 h8 h9 h10 h11 hko
    rw [es] at h2 h3 h4 h6 h7 h8 h10 h11
    rw [eg] at h6 h9 h10 h11
    rw [hci, Int.toNat_natCast] at h10 h11
    have htm : 0 ≤ o.tm ∧ o.tm ≤ 100000 := by rw [h2]; exact has.tm
    refine ⟨acts[gi], c.kinds[ki]'(by omega), acts[ci], gi, ki, ci, hgi, hki, by omega, hg, hs, hx, by rw [← eg]; exact hG.dw, by rw [← eg]; exact hO.kind, by rw [← eg]; exact hO.subj, h2.symm, hoff, ?_, ⟨fun e => by omega, fun e => by omega⟩, fun _ => ⟨h3, h4, h6, ?_, by omega⟩, fun n hn => ⟨hko.keys n hn, ?_⟩, fun hs => ?_⟩
    · rw [fitsB_ok hk0 hag.who htm, Bool.and_eq_true, decide_eq_true_eq]
      exact ⟨by have := hO.on; rw [eg] at this; exact this, hgr0⟩
    · rw [fitsB_ok hk0 has.who htm, Bool.and_eq_true, decide_eq_true_eq]
      exact ⟨h7, h8⟩
    · rw [if_pos h0]
      exact (h10 n hn).symm
    · rw [if_pos h0]
      exact ⟨(h11 hs).2, (h11 hs).1⟩
end Bx

/- part C19 -/
namespace Bx
open Go Go.RowKit
theorem pair_get {α : Type} {R : α → α → Prop} {l : List α} {i k : Nat} {u o : α} (h : l.Pairwise R) (hu : l[k]? = some u) (ho : l[i]? = some o) (hk : k < i) : R u o := by
  obtain ⟨h1, rfl⟩ := List.getElem?_eq_some_iff.1 hu
  obtain ⟨h2, rfl⟩ := List.getElem?_eq_some_iff.1 ho
  exact List.pairwise_iff_getElem.1 h k i h1 h2 hk
def anyH (hold : List Int) (a : Int) (ks : List Int) : Bool := ks.any fun k => decide (holdAt hold k = a)
theorem anyH_take {hold : List Int} {a y n : Int} {ks : List Int} {j : Nat} (h : ks[j]? = some n) (hy : holdAt hold n = y) : anyH hold a (ks.take (j + 1)) = (anyH hold a (ks.take j) || decide (y = a)) := by
  unfold anyH
  rw [take_snoc h, List.any_append, List.any_cons, List.any_nil, Bool.or_false, hy]
theorem anyH_iff {hold : List Int} {a : Int} {ks : List Int} : anyH hold a ks = true ↔ ∃ n ∈ ks, holdAt hold n = a := by
  unfold anyH
  simp [List.any_eq_true]
theorem holdAt_nat {hold : List Int} {n y : Int} {k : Nat} (hn : n = k) (hy : hold[k]? = some y) : holdAt hold n = y := by
  unfold holdAt; rw [hn, Int.toNat_natCast]; exact getD_hit hy
section
variable {P : Program} {ρ : Operand → Value} {w : World} {ty : TypeId}
theorem yBNe {x y : Operand} {a b : Bool} {t t' : TypeId} (hx : ρ x = .bool a) (hy : ρ y = .bool b) (ht : P.underlying t = some .bool) : Y P ρ (.binOp .neq t x y t') ty w (.bool (!(a == b))) w := by
  have h := run_neq_bool (P := P) w t a b ht
  simp [Y, xop, execOp, hx, hy, eqGuard, h]
end
end Bx

/- part C20 -/
namespace Bx
open Go Go.RowKit
def winF (c : Crew) (s : Scr) : List (Int × Int) := if (scriptF c s).2 ≠ 0 then [] else winL s.steps
theorem winF_bad {c : Crew} {s : Scr} (h : (scriptF c s).2 ≠ 0) : winF c s = [] := if_pos h
theorem winF_ok {c : Crew} {s : Scr} (h : (scriptF c s).2 = 0) : winF c s = winL s.steps := if_neg (not_not_intro h)
theorem pC_len (p : Int × Int) : (pC p).length = 2 := rfl
def RPr (_ : World) (cs : List Value) (p : Int × Int) : Prop := cs = pC p ∧ True
theorem RPr.stays : Stays RPr := fun _ _ _ _ _ h => h
theorem sl_prs {w : World} {e : TypeId} {v : Value} {n : Nat} {l : List (Int × Int)} (h : w.ownsRow 0 e 2 v n (l.flatMap pC)) (hn : l.length = n) : Sl w 2 RPr v l := by
  subst hn
  exact row_sl pC_len h (fun _ _ => trivial)
theorem getD_mem {α : Type} {l : List α} {i : Nat} {d : α} : l.getD i d ∈ l ∨ l.getD i d = d := by
  rw [List.getD_eq_getElem?_getD]
  cases h : l[i]? with
  | none => exact .inr rfl
  | some y => exact .inl (List.mem_of_getElem? h)
theorem winL_bd {c : Crew} {ss : List Stp} (h : ∀ (j : Nat) y, ss[j]? = some y → StpOk c j y) : ∀ k, k ≤ ss.length → ∀ y ∈ winL (ss.take k), (0 ≤ y.1 ∧ y.1 ≤ 240 * (k : Int)) ∧ 0 ≤ y.2 ∧ y.2 ≤ 240 * (k : Int)
  | 0, _ => fun y hy => (List.not_mem_nil (a := y) (by simpa [winL] using hy)).elim
  | k + 1, hk => fun y hy => by
    have ih := winL_bd h k (by omega)
    have hx := List.getElem?_eq_getElem (show k < ss.length by omega)
    rw [winL_take hx] at hy
    rcases List.mem_append.1 hy with hy | hy
    · have := ih y hy; omega
    · rw [List.mem_singleton.1 hy]
      have hs := h k _ hx
      have h1 := hs.most
      have h2 := hs.least
      unfold winS
      split
      · rcases getD_mem (l := winL (ss.take k)) (i := (ss[k]).after.toNat) (d := ((0 : Int), (0 : Int))) with hm | hm
        · have := ih _ hm
          dsimp only
          omega
        · rw [hm]
          dsimp only
          omega
      · dsimp only
        omega
theorem winL_pre (ss : List Stp) : ∀ k, k ≤ ss.length → winL (ss.take k) = (winL ss).take k := by
  have key : ∀ d k, k + d = ss.length → ∃ r, winL ss = winL (ss.take k) ++ r := by
    intro d
    induction d with
    | zero => intro k hk; exact ⟨[], by rw [List.append_nil, List.take_of_length_le (by omega)]⟩
    | succ d ih =>
      intro k hk
      obtain ⟨r, hr⟩ := ih (k + 1) (by omega)
      rw [winL_take (List.getElem?_eq_getElem (show k < ss.length by omega))] at hr
      exact ⟨_, by rw [hr, List.append_assoc]⟩
  intro k hk
  obtain ⟨r, hr⟩ := key (ss.length - k) k (by omega)
  rw [hr, List.take_left']
  rw [winL_len, List.length_take]; omega
theorem winL_get {ss : List Stp} {k : Nat} {x : Stp} (h : ss[k]? = some x) : (winL ss)[k]? = some (winS ((winL ss).take k) x) := by
  have hk := (List.getElem?_eq_some_iff.1 h).1
  have h1 := winL_take h
  rw [winL_pre ss (k + 1) (by omega), winL_pre ss k (by omega)] at h1
  have h2 : ((winL ss).take (k + 1))[k]? = some (winS ((winL ss).take k) x) := by
    rw [h1, List.getElem?_append_right (by rw [List.length_take]; omega), List.length_take, winL_len, Nat.min_eq_left (by omega), Nat.sub_self]
    rfl
  rwa [List.getElem?_take, if_pos (by omega)] at h2
/-! ### what is allowed -/
structure AllowP (c : Crew) (s : Scr) (start : Int) (l : List Int) : Prop where
  len : l.length = s.steps.length
  at_ : ∀ (i : Nat) x y, s.steps[i]? = some x → l[i]? = some y → (ableF c x.kind y).2.2 = 0 ∧ befP start l x + x.least ≤ y ∧ y ≤ befP start l x + x.most
theorem ableE_ok {c : Crew} {k m : Int} (hc : (checkC c).2.2 = 0) (hk : 0 ≤ k ∧ k < c.kinds.length) (hm : 0 ≤ m ∧ m ≤ 100000) : ableE c k m = 0 := by
  unfold ableE
  rw [if_neg (not_not_intro hc), if_neg (by rw [Bool.not_eq_true, outB_false]; omega), if_neg (by rw [Bool.not_eq_true, neverB, outB_false]; exact hm)]
theorem ableF_iff {c : Crew} {k m : Int} (hc : (checkC c).2.2 = 0) (hk : 0 ≤ k ∧ k < c.kinds.length) : (ableF c k m).2.2 = 0 ↔ (!neverB m && ableB c (kndAt c k) m) = true := by
  by_cases hm : 0 ≤ m ∧ m ≤ 100000
  · have hE := ableE_ok hc hk hm
    have hn : neverB m = false := by rw [neverB, outB_false]; exact hm
    rw [hn]
    unfold ableB
    cases hp : pairsL c (kndAt c k) m with
    | nil => rw [ableF_nil hE hp]; simp
    | cons p l => rw [ableF_cons hE hp]; simp
  · have hn : neverB m = true := by
      cases hb : neverB m with
      | true => rfl
      | false => rw [neverB, outB_false] at hb; exact absurd hb hm
    have hE : ableE c k m = 7 := by
      unfold ableE
      rw [if_neg (not_not_intro hc), if_neg (by rw [Bool.not_eq_true, outB_false]; omega), if_pos hn]
    rw [ableF_e hE (by decide), hn]
    simp
theorem ableF_min {c : Crew} {k m : Int} (hc : (checkC c).2.2 = 0) (hk : 0 ≤ k ∧ k < c.kinds.length) (h : (ableF c k m).2.2 = 0) : 0 ≤ m ∧ m ≤ 100000 := by
  rw [ableF_iff hc hk, Bool.and_eq_true, Bool.not_eq_true', neverB, outB_false] at h
  exact h.1
theorem firstIn_le {p : Int → Bool} {lo hi v : Int} (h1 : lo ≤ v) (h2 : v ≤ hi) (hp : p v = true) : lo ≤ firstIn p lo hi ∧ firstIn p lo hi ≤ v ∧ p (firstIn p lo hi) = true := by
  unfold firstIn
  cases hf : (List.range (hi - lo + 1).toNat).find? (fun (j : Nat) => p (lo + (j : Int))) with
  | none =>
    rw [List.find?_eq_none] at hf
    have := hf (v - lo).toNat (List.mem_range.2 (by omega))
    rw [show lo + (((v - lo).toNat : Nat) : Int) = v by omega] at this
    exact absurd hp this
  | some j =>
    rw [List.find?_range_eq_some] at hf
    refine ⟨by dsimp only; omega, ?_, hf.1⟩
    rcases Nat.lt_or_ge (v - lo).toNat j with h | h
    · have := hf.2.2 _ h
      rw [show lo + (((v - lo).toNat : Nat) : Int) = v by omega, hp] at this
      cases this
    · dsimp only; omega
theorem crew_of {c : Crew} {s : Scr} (h : (scriptF c s).2 = 0) : (checkC c).2.2 = 0 := by
  unfold scriptF at h
  split at h
  · rename_i h1; exact absurd h h1
  · rename_i h1; exact Classical.not_not.1 h1
theorem baseP_iff {c : Crew} {s : Scr} {st : Nat} {m : Int} {x : Stp} (hs : (scriptF c s).2 = 0) (hx : s.steps[st]? = some x) : baseP c s st m = true ↔ (ableF c x.kind m).2.2 = 0 := by
  rw [ableF_iff (crew_of hs) ((scrOk_of hs).steps st x hx).kind]
  unfold baseP
  rw [stpAt_hit hx]
theorem canS_base {c : Crew} {s : Scr} {st : Nat} {m : Int} (hok : ScrOk c s) (h : st < s.steps.length) (hc : canS c s st m = true) : baseP c s st m = true := by
  rw [canS_eq hok.steps h, Bool.and_eq_true] at hc
  exact hc.1
theorem canS_next {c : Crew} {s : Scr} {st k : Nat} {m : Int} {x : Stp} (hok : ScrOk c s) (h : st < s.steps.length) (hc : canS c s st m = true) (hx : s.steps[k]? = some x) (ha : x.after = st) : 0 ≤ firstP c s k m := by
  rw [canS_eq hok.steps h, Bool.and_eq_true, List.all_eq_true] at hc
  have := hc.2 k (List.mem_range.2 (List.getElem?_eq_some_iff.1 hx).1)
  rw [stpAt_hit hx, ha, Bool.or_eq_true] at this
  rcases this with h | h
  · simp at h
  · exact of_decide_eq_true h
theorem canS_mk {c : Crew} {s : Scr} {st : Nat} {m : Int} (hok : ScrOk c s) (h : st < s.steps.length) (hb : baseP c s st m = true) (hn : ∀ (k : Nat) x, s.steps[k]? = some x → x.after = st → 0 ≤ firstP c s k m) : canS c s st m = true := by
  rw [canS_eq hok.steps h, Bool.and_eq_true, List.all_eq_true]
  refine ⟨hb, fun k hk => ?_⟩
  have hx := List.getElem?_eq_getElem (List.mem_range.1 hk)
  rw [stpAt_hit hx, Bool.or_eq_true]
  by_cases ha : (s.steps[k]'(List.mem_range.1 hk)).after = (st : Int)
  · exact .inr (decide_eq_true (hn k _ hx ha))
  · exact .inl (decide_eq_true ha)
theorem firstP_le {c : Crew} {s : Scr} {k : Nat} {x : Stp} {b v : Int} (hx : s.steps[k]? = some x) (h1 : b + x.least ≤ v) (h2 : v ≤ b + x.most) (hc : canS c s k v = true) : b + x.least ≤ firstP c s k b ∧ firstP c s k b ≤ v := by
  have hxa := stpAt_hit hx
  unfold firstP
  rw [hxa]
  obtain ⟨a, b, _⟩ := firstIn_le h1 h2 hc
  exact ⟨a, b⟩
theorem firstP_in {c : Crew} {s : Scr} {k : Nat} {x : Stp} {b : Int} (hx : s.steps[k]? = some x) (h : 0 ≤ firstP c s k b) : b + x.least ≤ firstP c s k b ∧ firstP c s k b ≤ b + x.most ∧ canS c s k (firstP c s k b) = true := by
  have hxa := stpAt_hit hx
  unfold firstP at h ⊢
  rw [hxa] at h ⊢
  obtain ⟨j, e, h1, h2, _⟩ := firstIn_spec (.inl h)
  rw [e]
  exact ⟨by omega, h1, h2⟩
theorem befP_at {start : Int} {l : List Int} {x : Stp} {a : Nat} {v : Int} (ha : x.after = a) (hv : l[a]? = some v) : befP start l x = v := by
  unfold befP
  rw [if_pos (by omega), ha, Int.toNat_natCast]
  exact getD_hit hv
theorem befP_neg {start : Int} {l : List Int} {x : Stp} (ha : x.after < 0) : befP start l x = start := if_neg (by omega)
theorem befP_app {start : Int} {l r : List Int} {x : Stp} (ha : x.after < l.length) : befP start (l ++ r) x = befP start l x := by
  unfold befP
  split
  · rw [List.getD_eq_getElem?_getD, List.getD_eq_getElem?_getD, List.getElem?_append_left (by omega)]
  · rfl
theorem allow_can {c : Crew} {s : Scr} {start : Int} {l : List Int} (hs : (scriptF c s).2 = 0) (h : AllowP c s start l) : ∀ (d st : Nat) (v : Int), l[st]? = some v → s.steps.length - st ≤ d → canS c s st v = true := by
  have hok := scrOk_of hs
  intro d
  induction d using Nat.strongRecOn with
  | _ D ih =>
    intro st v hv hd
    have hlt : st < s.steps.length := by rw [← h.len]; exact (List.getElem?_eq_some_iff.1 hv).1
    have hx := List.getElem?_eq_getElem hlt
    obtain ⟨h1, _, _⟩ := h.at_ st _ v hx hv
    refine canS_mk hok hlt ((baseP_iff hs hx).2 h1) (fun k y hy ha => ?_)
    have hky := (List.getElem?_eq_some_iff.1 hy).1
    have hsk := hok.steps k y hy
    have hak := hsk.after
    have hl := hsk.least
    obtain ⟨u, hu⟩ : ∃ u, l[k]? = some u := ⟨_, List.getElem?_eq_getElem (by rw [h.len]; exact hky)⟩
    obtain ⟨g1, g2, g3⟩ := h.at_ k y u hy hu
    rw [befP_at ha hv] at g2 g3
    have hcu := ih (D - 1) (by omega) k u hu (by omega)
    have hvm := ableF_min (crew_of hs) (hok.steps st _ hx).kind h1
    have := firstP_le hy g2 g3 hcu
    omega
/-! ### the plan -/
def GoodP (c : Crew) (s : Scr) (start : Int) (l : List Int) : Prop := ∀ (i : Nat) x y, s.steps[i]? = some x → l[i]? = some y → y = firstP c s i (befP start l x) ∧ 0 ≤ y
theorem good_snoc {c : Crew} {s : Scr} {start : Int} {l : List Int} {x : Stp} (hok : ScrOk c s) (h : GoodP c s start l) (hx : s.steps[l.length]? = some x) (h0 : 0 ≤ firstP c s l.length (befP start l x)) : GoodP c s start (l ++ [firstP c s l.length (befP start l x)]) := by
  intro i y z hy hz
  have hay := (hok.steps i y hy).after
  by_cases hi : i < l.length
  · rw [List.getElem?_append_left hi] at hz
    rw [befP_app (by omega)]
    exact h i y z hy hz
  · have hl := (List.getElem?_eq_some_iff.1 hz).1
    rw [List.length_append, List.length_singleton] at hl
    obtain rfl : i = l.length := by omega
    rw [List.getElem?_append_right (Nat.le_refl _), Nat.sub_self] at hz
    obtain rfl : firstP c s l.length (befP start l x) = z := by simpa using hz
    obtain rfl : x = y := Option.some.inj (hx.symm.trans hy)
    rw [befP_app (by omega)]
    exact ⟨rfl, h0⟩
theorem planR_spec {c : Crew} {s : Scr} {start : Int} (hok : ScrOk c s) : ∀ (r : List Stp) (i : Nat) (l : List Int), r = s.steps.drop i → l.length = i → i ≤ s.steps.length → GoodP c s start l →
    (∀ p, planR c s start r i l = some p → GoodP c s start p ∧ p.length = s.steps.length) ∧ (planR c s start r i l = none → ∃ pre x, GoodP c s start pre ∧ s.steps[pre.length]? = some x ∧ firstP c s pre.length (befP start pre x) < 0)
  | [], i, l, hr, hl, hi, hg => by
    have : s.steps.length ≤ i := by
      have := congrArg List.length hr
      rw [List.length_drop, List.length_nil] at this
      omega
    refine ⟨fun p hp => ?_, fun hn => by cases hn⟩
    obtain rfl : l = p := by simpa [planR] using hp
    exact ⟨hg, by omega⟩
  | x :: r, i, l, hr, hl, hi, hg => by
    have hlt : i < s.steps.length := by
      have := congrArg List.length hr
      rw [List.length_drop, List.length_cons] at this
      omega
    have hd := List.drop_eq_getElem_cons hlt
    rw [← hr] at hd
    obtain ⟨e1, e2⟩ := List.cons.inj hd
    have hx : s.steps[i]? = some x := by rw [e1]; exact List.getElem?_eq_getElem hlt
    rw [planR_cons]
    subst hl
    split
    · rename_i h0
      exact ⟨fun p hp => (by cases hp), fun _ => ⟨l, x, hg, hx, h0⟩⟩
    · rename_i h0
      exact planR_spec hok r (l.length + 1) _ e2 (by simp) (by omega) (good_snoc hok hg hx (by omega))
theorem good_nil (c : Crew) (s : Scr) (start : Int) : GoodP c s start [] := fun i x y _ h => by simp at h
theorem good_allow {c : Crew} {s : Scr} {start : Int} {p : List Int} (hs : (scriptF c s).2 = 0) (h : GoodP c s start p) (hl : p.length = s.steps.length) : AllowP c s start p := by
  refine ⟨hl, fun i x y hx hy => ?_⟩
  obtain ⟨e, h0⟩ := h i x y hx hy
  have hlt := (List.getElem?_eq_some_iff.1 hx).1
  obtain ⟨a, b, d⟩ := firstP_in hx (e ▸ h0)
  rw [← e] at a b d
  exact ⟨(baseP_iff hs hx).1 (canS_base (scrOk_of hs) hlt d), a, b⟩
theorem good_first {c : Crew} {s : Scr} {start : Int} {l p : List Int} (hs : (scriptF c s).2 = 0) (hl : AllowP c s start l) (hp : GoodP c s start p) {i : Nat} {y z : Int} (he : ∀ j, j < i → l[j]? = p[j]?) (hy : l[i]? = some y) (hz : p[i]? = some z) : z ≤ y := by
  have hlt : i < s.steps.length := by rw [← hl.len]; exact (List.getElem?_eq_some_iff.1 hy).1
  have hx := List.getElem?_eq_getElem hlt
  obtain ⟨e, h0⟩ := hp i _ z hx hz
  obtain ⟨_, g2, g3⟩ := hl.at_ i _ y hx hy
  have hc := allow_can hs hl _ i y hy (Nat.le_refl _)
  have hbe : befP start l (s.steps[i]) = befP start p (s.steps[i]) := by
    have ha := ((scrOk_of hs).steps i _ hx).after
    unfold befP
    split
    · rw [List.getD_eq_getElem?_getD, List.getD_eq_getElem?_getD, he _ (by omega)]
    · rfl
  rw [hbe] at g2 g3
  rw [e]
  exact (firstP_le hx g2 g3 hc).2
theorem good_stop {c : Crew} {s : Scr} {start : Int} {l pre : List Int} {x : Stp} (hs : (scriptF c s).2 = 0) (h0 : 0 ≤ start) (hl : AllowP c s start l) (hp : GoodP c s start pre) (hx : s.steps[pre.length]? = some x) (hn : firstP c s pre.length (befP start pre x) < 0) : False := by
  have hok := scrOk_of hs
  have hsx := hok.steps _ x hx
  have ha := hsx.after
  have hlx := hsx.least
  have hlt := (List.getElem?_eq_some_iff.1 hx).1
  by_cases hneg : x.after < 0
  · obtain ⟨y, hy⟩ : ∃ y, l[pre.length]? = some y := ⟨_, List.getElem?_eq_getElem (by rw [hl.len]; exact hlt)⟩
    obtain ⟨_, g2, g3⟩ := hl.at_ _ x y hx hy
    rw [befP_neg hneg] at g2 g3 hn
    have := firstP_le hx g2 g3 (allow_can hs hl _ _ y hy (Nat.le_refl _))
    omega
  · obtain ⟨a, hae⟩ := Int.eq_ofNat_of_zero_le (show 0 ≤ x.after by omega)
    have hal : a < pre.length := by omega
    have hv := List.getElem?_eq_getElem hal
    have hxa := List.getElem?_eq_getElem (show a < s.steps.length by omega)
    obtain ⟨e, hv0⟩ := hp a _ _ hxa hv
    have hca := (firstP_in hxa (e ▸ hv0)).2.2
    rw [← e] at hca
    have := canS_next hok (by omega) hca hx hae
    rw [befP_at hae hv] at hn
    omega
theorem plan_ok {c : Crew} {s : Scr} {start : Int} (h : planE c s start = 0) : (scriptF c s).2 = 0 ∧ (0 ≤ start ∧ start ≤ 100000) ∧ GoodP c s start (planL c s start) ∧ (planL c s start).length = s.steps.length := by
  unfold planE at h
  split at h
  · rename_i h1; exact absurd h h1
  rename_i h1
  have h1 := Classical.not_not.1 h1
  split at h
  · cases h
  rename_i h2
  have hm : 0 ≤ start ∧ start ≤ 100000 := by rw [Bool.not_eq_true, neverB, outB_false] at h2; exact h2
  refine ⟨h1, hm, ?_⟩
  have hsp := planR_spec (start := start) (scrOk_of h1) s.steps 0 [] rfl rfl (Nat.zero_le _) (good_nil c s start)
  cases hp : planR c s start s.steps 0 [] with
  | none => rw [hp] at h; cases h
  | some l =>
    obtain ⟨_, e⟩ := planE_some h1 (by rw [neverB, outB_false]; exact hm) hp
    rw [e]
    exact hsp.1 l hp
theorem plan_down {c : Crew} {s : Scr} {start : Int} (hs : (scriptF c s).2 = 0) (h : planE c s start = 9) : (0 ≤ start ∧ start ≤ 100000) ∧ ∀ l, ¬ AllowP c s start l := by
  unfold planE at h
  rw [if_neg (not_not_intro hs)] at h
  split at h
  · cases h
  rename_i h2
  have hm : 0 ≤ start ∧ start ≤ 100000 := by rw [Bool.not_eq_true, neverB, outB_false] at h2; exact h2
  refine ⟨hm, fun l hl => ?_⟩
  have hsp := planR_spec (start := start) (scrOk_of hs) s.steps 0 [] rfl rfl (Nat.zero_le _) (good_nil c s start)
  cases hp : planR c s start s.steps 0 [] with
  | some l => rw [hp] at h; cases h
  | none =>
    obtain ⟨pre, x, g1, g2, g3⟩ := hsp.2 hp
    exact good_stop hs hm.1 hl g1 g2 g3
theorem good_win {c : Crew} {s : Scr} {start : Int} {p : List Int} (hs : (scriptF c s).2 = 0) (h : GoodP c s start p) : ∀ (i : Nat) y w, p[i]? = some y → (winL s.steps)[i]? = some w → start + w.1 ≤ y ∧ y ≤ start + w.2 := by
  intro i
  induction i using Nat.strongRecOn with
  | _ i ih =>
    intro y w hy hw
    have hlt : i < s.steps.length := by have := (List.getElem?_eq_some_iff.1 hw).1; rwa [winL_len] at this
    have hx := List.getElem?_eq_getElem hlt
    rw [winL_get hx] at hw
    obtain rfl := Option.some.inj hw
    obtain ⟨e, h0⟩ := h i _ y hx hy
    obtain ⟨a, b, _⟩ := firstP_in hx (e ▸ h0)
    rw [← e] at a b
    have hax := ((scrOk_of hs).steps i _ hx).after
    by_cases hneg : (s.steps[i]).after < 0
    · rw [befP_neg hneg] at a b
      unfold winS
      rw [if_neg (by omega)]
      dsimp only
      omega
    · obtain ⟨q, hq⟩ := Int.eq_ofNat_of_zero_le (show 0 ≤ (s.steps[i]).after by omega)
      have hpl : q < p.length := by have := (List.getElem?_eq_some_iff.1 hy).1; omega
      have hv := List.getElem?_eq_getElem hpl
      have hwq := List.getElem?_eq_getElem (show q < (winL s.steps).length by rw [winL_len]; omega)
      have ihq := ih q (by omega) _ _ hv hwq
      rw [befP_at hq hv] at a b
      unfold winS
      rw [if_pos (by omega)]
      have hg : ((winL s.steps).take i).getD (s.steps[i]).after.toNat (0, 0) = (winL s.steps)[q]'(by rw [winL_len]; omega) := by
        rw [hq, Int.toNat_natCast]
        exact getD_hit (by rw [List.getElem?_take, if_pos (by omega)]; exact hwq)
      rw [hg]
      dsimp only
      omega
end Bx
namespace Bx
open Go Go.RowKit
theorem winS_yes {l : List (Int × Int)} {x : Stp} {a : Nat} {y : Int × Int} (ha : x.after = a) (hy : l[a]? = some y) : winS l x = (x.least + y.1, x.most + y.2) := by
  unfold winS
  rw [if_pos (by omega), ha, Int.toNat_natCast, getD_hit hy]
theorem winS_no {l : List (Int × Int)} {x : Stp} (ha : ¬ 0 ≤ x.after) : winS l x = (x.least, x.most) := if_neg ha
/-- A script, a start, acts. -/
structure Drl where
  script : Scr
  start : Int
  acts : List Acn
def RDrl (w : World) (cs : List Value) (d : Drl) : Prop := ∃ sv av, cs = [.string d.script.name, sv, .int .i64 d.start, av] ∧ d.script.name.size ≤ 9223372036854775807 ∧ Sl w 5 RStp sv d.script.steps ∧ I64 d.start ∧ Sl w 6 RAct av d.acts
theorem first_bad {c : Crew} {s : Scr} {start : Int} (h : (planE c s start ≠ 0 ∧ planE c s start ≠ 9) ∨ (scriptF c s).2 ≠ 0) : planE c s start ≠ 0 := by
  rcases h with h | h
  · exact h.1
  · rw [(planE_bad h).1]; exact h
theorem good_bd {c : Crew} {s : Scr} {start : Int} {p : List Int} (hs : (scriptF c s).2 = 0) (h : GoodP c s start p) (hl : p.length = s.steps.length) : ∀ y ∈ p, 0 ≤ y ∧ y ≤ 100000 := by
  intro y hy
  obtain ⟨i, hi, rfl⟩ := List.getElem_of_mem hy
  have hx := List.getElem?_eq_getElem (show i < s.steps.length by omega)
  exact ableF_min (crew_of hs) ((scrOk_of hs).steps i _ hx).kind ((good_allow hs h hl).at_ i _ _ hx (List.getElem?_eq_getElem hi)).1
theorem plan_start {c : Crew} {s : Scr} {start : Int} (hs : (scriptF c s).2 = 0) (h : planE c s start = 0 ∨ planE c s start = 9) : 0 ≤ start ∧ start ≤ 100000 := by
  rcases h with h | h
  · exact (plan_ok h).2.1
  · exact (plan_down hs h).1
end Bx

/- part C21 -/
namespace Bx
open Go Go.RowKit
theorem fitB_nat (c : Crew) (m : Int) (i : Nat) (g : Int) : fitB c m i g = (decide (g ≤ gradeOf c i) && onB c i m) := rfl
theorem ableB_iff {c : Crew} {x : Knd} {m : Int} : ableB c x m = true ↔ ∃ i : Nat, i < c.ops.length ∧ fitB c m i x.grade = true ∧ (x.second = 0 ∨ ∃ k : Nat, k < c.ops.length ∧ (k : Int) ≠ i ∧ fitB c m k x.second = true) := by
  have h1 : ableB c x m = true ↔ ∃ p, p ∈ pairsL c x m := by
    unfold ableB
    cases h : pairsL c x m with
    | nil => simp
    | cons p l => exact ⟨fun _ => ⟨p, List.mem_cons_self ..⟩, fun _ => rfl⟩
  rw [h1]
  unfold pairsL prP
  constructor
  · rintro ⟨p, hp⟩
    obtain ⟨i, hi, hp⟩ := List.mem_flatMap.1 hp
    rw [List.mem_range] at hi
    unfold rowP at hp
    split at hp
    · rename_i hf
      refine ⟨i, hi, hf, ?_⟩
      split at hp
      · rename_i h0; exact .inl h0
      · obtain ⟨k, hk, -⟩ := List.mem_map.1 hp
        obtain ⟨h2, h3⟩ := List.mem_filter.1 hk
        rw [Bool.and_eq_true, decide_eq_true_eq] at h3
        exact .inr ⟨k, List.mem_range.1 h2, h3.1, h3.2⟩
    · cases hp
  · rintro ⟨i, hi, hf, h⟩
    by_cases h0 : x.second = 0
    · exact ⟨((i : Int), -1), List.mem_flatMap.2 ⟨i, List.mem_range.2 hi, by unfold rowP; rw [if_pos hf, if_pos h0]; exact List.mem_singleton.2 rfl⟩⟩
    · obtain ⟨k, hk, hne, hf2⟩ := h.resolve_left h0
      refine ⟨((i : Int), (k : Int)), List.mem_flatMap.2 ⟨i, List.mem_range.2 hi, ?_⟩⟩
      unfold rowP inP
      rw [if_pos hf, if_neg h0]
      exact List.mem_map.2 ⟨k, List.mem_filter.2 ⟨List.mem_range.2 hk, by rw [Bool.and_eq_true, decide_eq_true_eq]; exact ⟨hne, hf2⟩⟩, rfl⟩
/-- Who is able with c is able with d. -/
structure Leq (c d : Crew) : Prop where
  kinds : d.kinds = c.kinds
  len : d.ops.length = c.ops.length
  fit : ∀ (i : Nat) (m g : Int), i < c.ops.length → fitB c m i g = true → fitB d m i g = true
theorem Leq.able {c d : Crew} (h : Leq c d) {x : Knd} {m : Int} (ha : ableB c x m = true) : ableB d x m = true := by
  rw [ableB_iff] at ha ⊢
  obtain ⟨i, hi, hf, h2⟩ := ha
  refine ⟨i, by rw [h.len]; exact hi, h.fit i _ _ hi hf, ?_⟩
  rcases h2 with h2 | ⟨k, hk, hne, hf2⟩
  · exact .inl h2
  · exact .inr ⟨k, by rw [h.len]; exact hk, hne, h.fit k _ _ hk hf2⟩
theorem ableF_range {c : Crew} {k m : Int} (h : (ableF c k m).2.2 = 0) : (checkC c).2.2 = 0 ∧ 0 ≤ k ∧ k < c.kinds.length := by
  have hE : ableE c k m = 0 := by
    by_cases h0 : ableE c k m = 0
    · exact h0
    · rw [ableF_e rfl h0] at h; exact h
  unfold ableE at hE
  split at hE
  · rename_i h1; exact absurd hE h1
  split at hE
  · cases hE
  · rename_i h1 h2
    rw [Bool.not_eq_true, outB_false] at h2
    exact ⟨Classical.not_not.1 h1, by omega, by omega⟩
theorem kndAt_eq {c d : Crew} (h : d.kinds = c.kinds) (k : Int) : kndAt d k = kndAt c k := by unfold kndAt; rw [h]
theorem Leq.ableF {c d : Crew} (h : Leq c d) (hd : (checkC d).2.2 = 0) {k m : Int} (ha : (Bx.ableF c k m).2.2 = 0) : (Bx.ableF d k m).2.2 = 0 := by
  obtain ⟨hc, hk⟩ := ableF_range ha
  rw [ableF_iff hc hk, Bool.and_eq_true] at ha
  rw [ableF_iff hd (by rw [h.kinds]; exact hk), Bool.and_eq_true, kndAt_eq h.kinds]
  exact ⟨ha.1, h.able ha.2⟩
theorem firstS_eq {c d : Crew} (h : d.kinds = c.kinds) : ∀ (l : List Stp) (i : Int), firstS d l i = firstS c l i
  | [], _ => rfl
  | x :: l, i => by
    have e : stepE d i x = stepE c i x := by unfold stepE; rw [h]
    unfold firstS
    rw [e, firstS_eq h l]
theorem scriptF_eq {c d : Crew} (hc : (checkC d).2.2 = (checkC c).2.2) (h : d.kinds = c.kinds) (s : Scr) : scriptF d s = scriptF c s := by
  unfold scriptF
  rw [hc, firstS_eq h]
theorem more_plan {c d : Crew} (h : Leq c d) {s : Scr} {start : Int} (hd : (checkC d).2.2 = 0) (hp : planE c s start = 0) :
    planE d s start = 0 ∧ (planL d s start).length = (planL c s start).length ∧ ∀ (i : Nat) y z, (∀ j : Nat, j < i → (planL d s start)[j]? = (planL c s start)[j]?) → (planL c s start)[i]? = some y → (planL d s start)[i]? = some z → z ≤ y := by
  obtain ⟨h1, h2, h3, h4⟩ := plan_ok hp
  have hsd : (scriptF d s).2 = 0 := by rw [scriptF_eq (by rw [hd, crew_of h1]) h.kinds]; exact h1
  have hA : AllowP d s start (planL c s start) := by
    have := good_allow h1 h3 h4
    exact ⟨this.len, fun i x y hx hy => by
      obtain ⟨a, b⟩ := this.at_ i x y hx hy
      exact ⟨h.ableF hd a, b⟩⟩
  have hsp := planR_spec (start := start) (scrOk_of hsd) s.steps 0 [] rfl rfl (Nat.zero_le _) (good_nil d s start)
  cases hr : planR d s start s.steps 0 [] with
  | none =>
    obtain ⟨pre, x, g1, g2, g3⟩ := hsp.2 hr
    exact absurd (good_stop hsd h2.1 hA g1 g2 g3) id
  | some l =>
    obtain ⟨e1, e2⟩ := planE_some hsd (by rw [neverB, outB_false]; exact h2) hr
    obtain ⟨g1, g2⟩ := hsp.1 l hr
    refine ⟨e1, by rw [e2, g2, h4], fun i y z he hy hz => ?_⟩
    rw [e2] at he hz
    exact good_first hsd hA g1 (fun j hj => (he j hj).symm) hy hz
def moreC (c : Crew) (i : Nat) (o : Opr) (g : Int) (sp : Spn) : Crew := { c with ops := c.ops.set i ⟨o.name, g, o.duty ++ [sp]⟩ }
theorem moreC_leq {c : Crew} {i : Nat} {o : Opr} {g : Int} {sp : Spn} (ho : c.ops[i]? = some o) (hg : o.grade ≤ g) : Leq c (moreC c i o g sp) := by
  refine ⟨rfl, by unfold moreC; simp, fun k m r hk hf => ?_⟩
  have hil := (List.getElem?_eq_some_iff.1 ho).1
  by_cases e : k = i
  · subst e
    have e1 : oprAt (moreC c k o g sp) (k : Int) = ⟨o.name, g, o.duty ++ [sp]⟩ := by unfold oprAt moreC; rw [Int.toNat_natCast]; exact getD_hit (by rw [List.getElem?_set_self hil])
    have e2 : oprAt c (k : Int) = o := by unfold oprAt; rw [Int.toNat_natCast]; exact getD_hit ho
    unfold fitB onB at hf ⊢
    rw [e1]
    rw [e2] at hf
    rw [Bool.and_eq_true, decide_eq_true_eq] at hf ⊢
    refine ⟨by show r ≤ g; omega, ?_⟩
    show (o.duty ++ [sp]).any (spnAt m) = true
    rw [List.any_append, hf.2]; rfl
  · have e1 : oprAt (moreC c i o g sp) (k : Int) = oprAt c k := by unfold oprAt moreC; rw [Int.toNat_natCast, List.getD_eq_getElem?_getD, List.getD_eq_getElem?_getD, List.getElem?_set_ne (Ne.symm e)]
    unfold fitB onB at hf ⊢
    rw [e1]
    exact hf
theorem grade_ok {c : Crew} (hc : (checkC c).2.2 = 0) {i : Nat} {o : Opr} (ho : c.ops[i]? = some o) : 1 ≤ o.grade ∧ o.grade ≤ 9 := by
  have := (crewOk_of hc).ops o (List.mem_of_getElem? ho)
  unfold oprE at this
  split at this
  · cases this
  · rename_i h; rw [Bool.not_eq_true, outB_false] at h; exact h
/-! ### later -/
def shS (n : Int) (s : Spn) : Spn := ⟨wr (s.fr + n), wr (s.un + n)⟩
def shO (n : Int) (o : Opr) : Opr := { o with duty := o.duty.map (shS n) }
def shC (c : Crew) (n : Int) : Crew := { c with ops := c.ops.map (shO n) }
/-- Spans that are shifted at all. -/
def ShOk (c : Crew) : Prop := ∀ o ∈ c.ops, ∀ s ∈ o.duty, (s.un ≤ 50000 ∧ 0 ≤ s.fr) ∧ I64 s.fr ∧ I64 s.un
theorem shS_bad {s : Spn} {n : Int} (h : (s.un ≤ 50000 ∧ 0 ≤ s.fr) ∧ I64 s.fr ∧ I64 s.un) (hn : 0 ≤ n ∧ n ≤ 255) : spnBad (shS n s) = spnBad s := by
  obtain ⟨h1, h2, h3⟩ := h
  have e1 : wr (s.un + n) = s.un + n := wr_in ⟨by unfold I64 at h3; omega, by omega⟩
  have e2 : wr (s.fr + n) = s.fr + n ∨ (wr (s.fr + n) < 0 ∧ 100000 < s.fr) := by
    by_cases hb : s.fr + n ≤ 9223372036854775807
    · exact .inl (wr_in ⟨by omega, hb⟩)
    · right
      unfold I64 at h2
      refine ⟨?_, by omega⟩
      unfold wr
      rw [IntKind.wrap_i64]
      omega
  rw [Bool.eq_iff_iff]
  simp only [spnBad, shS, neverB, outB, Bool.or_eq_true, decide_eq_true_eq, e1]
  rcases e2 with e2 | e2
  · rw [e2]; omega
  · omega
theorem any_map {α : Type} {p : α → Bool} {f : α → α} {l : List α} (h : ∀ x ∈ l, p (f x) = p x) : (l.map f).any p = l.any p := by
  rw [List.any_map, Bool.eq_iff_iff, List.any_eq_true, List.any_eq_true]
  exact ⟨fun ⟨x, hx, hp⟩ => ⟨x, hx, by rw [← h x hx]; exact hp⟩, fun ⟨x, hx, hp⟩ => ⟨x, hx, by rw [Function.comp_apply, h x hx]; exact hp⟩⟩
theorem namedR_map {α : Type} {nm : α → ByteArray} {rest : α → Int} {f : α → α} : ∀ (l : List α) (seen : List ByteArray) (i : Int), (∀ x ∈ l, nm (f x) = nm x ∧ rest (f x) = rest x) → namedR nm rest (l.map f) seen i = namedR nm rest l seen i
  | [], _, _, _ => rfl
  | x :: l, seen, i, h => by
    obtain ⟨h1, h2⟩ := h x (List.mem_cons_self ..)
    rw [List.map_cons]
    unfold namedR
    rw [h1, h2, namedR_map l _ _ (fun y hy => h y (List.mem_cons_of_mem _ hy))]
theorem shC_check {c : Crew} {n : Int} (h : ShOk c) (hn : 0 ≤ n ∧ n ≤ 255) : checkC (shC c n) = checkC c := by
  have e1 : sizeBad (shC c n) = sizeBad c := by unfold sizeBad shC; simp
  have e2 : namedR (·.name) oprE (shC c n).ops [] 0 = namedR (·.name) oprE c.ops [] 0 := by
    refine namedR_map c.ops [] 0 (fun o ho => ⟨rfl, ?_⟩)
    unfold oprE
    show (if outB o.grade 1 9 = true then 7 else if (6 : Int) < (o.duty.map (shS n)).length then 3 else if (o.duty.map (shS n)).any spnBad = true then 7 else 0) = _
    rw [List.length_map, any_map (fun s hs => shS_bad (h o ho s hs) hn)]
  unfold checkC
  rw [e1, e2]
  rfl
theorem spn_ok {c : Crew} (hc : (checkC c).2.2 = 0) {o : Opr} (ho : o ∈ c.ops) {s : Spn} (hs : s ∈ o.duty) : 0 ≤ s.fr ∧ s.fr ≤ s.un ∧ s.un ≤ 100000 := by
  have := (crewOk_of hc).ops o ho
  unfold oprE at this
  split at this
  · cases this
  split at this
  · cases this
  split at this
  · cases this
  rename_i h
  have h2 : spnBad s = false := by
    cases hb : spnBad s with
    | false => rfl
    | true => exact absurd (List.any_eq_true.2 ⟨s, hs, hb⟩) h
  simp only [spnBad, Bool.or_eq_false_iff, neverB, outB_false] at h2
  omega
theorem oprAt_mem {c : Crew} {i : Int} : oprAt c i ∈ c.ops ∨ oprAt c i = nOpr := getD_mem
theorem shC_opr (c : Crew) (n i : Int) : oprAt (shC c n) i = shO n (oprAt c i) := by
  unfold oprAt shC
  rw [List.getD_eq_getElem?_getD, List.getD_eq_getElem?_getD, List.getElem?_map]
  cases c.ops[i.toNat]? <;> rfl
theorem shC_on {c : Crew} {n : Int} (hc : (checkC c).2.2 = 0) (h : ShOk c) (hn : 0 ≤ n ∧ n ≤ 255) (i m : Int) : onB (shC c n) i (m + n) = onB c i m := by
  unfold onB
  rw [shC_opr]
  show ((oprAt c i).duty.map (shS n)).any (spnAt (m + n)) = _
  rw [List.any_map]
  rcases oprAt_mem (c := c) (i := i) with hm | hm
  · rw [Bool.eq_iff_iff, List.any_eq_true, List.any_eq_true]
    have key : ∀ s ∈ (oprAt c i).duty, spnAt (m + n) (shS n s) = spnAt m s := fun s hs => by
      obtain ⟨h1, h2, h3⟩ := spn_ok hc hm hs
      have h4 := (h _ hm s hs).1
      have e1 : (shS n s).fr = s.fr + n := wr_in (show I64 (s.fr + n) from ⟨by omega, by omega⟩)
      have e2 : (shS n s).un = s.un + n := wr_in (show I64 (s.un + n) from ⟨by omega, by omega⟩)
      rw [Bool.eq_iff_iff]
      unfold spnAt
      rw [Bool.and_eq_true, Bool.and_eq_true, decide_eq_true_eq, decide_eq_true_eq, decide_eq_true_eq, decide_eq_true_eq, e1, e2]
      omega
    exact ⟨fun ⟨s, hs, hp⟩ => ⟨s, hs, by rw [← key s hs]; exact hp⟩, fun ⟨s, hs, hp⟩ => ⟨s, hs, by rw [Function.comp_apply, key s hs]; exact hp⟩⟩
  · rw [hm]; rfl
theorem shC_fit {c : Crew} {n : Int} (hc : (checkC c).2.2 = 0) (h : ShOk c) (hn : 0 ≤ n ∧ n ≤ 255) (m i g : Int) : fitB (shC c n) (m + n) i g = fitB c m i g := by
  unfold fitB
  rw [shC_on hc h hn, shC_opr]
  rfl
theorem shC_able {c : Crew} {n : Int} (hc : (checkC c).2.2 = 0) (h : ShOk c) (hn : 0 ≤ n ∧ n ≤ 255) (x : Knd) (m : Int) : ableB (shC c n) x (m + n) = ableB c x m := by
  rw [Bool.eq_iff_iff, ableB_iff, ableB_iff]
  have e : (shC c n).ops.length = c.ops.length := by unfold shC; simp
  simp only [e, shC_fit hc h hn]
theorem able_range {c : Crew} (hc : (checkC c).2.2 = 0) (h : ShOk c) {x : Knd} {m : Int} (ha : ableB c x m = true) : 0 ≤ m ∧ m < 50000 := by
  obtain ⟨i, hi, hf, _⟩ := ableB_iff.1 ha
  rw [fitB_nat, Bool.and_eq_true] at hf
  have h2 := hf.2
  unfold onB at h2
  obtain ⟨s, hs, hp⟩ := List.any_eq_true.1 h2
  rcases oprAt_mem (c := c) (i := (i : Int)) with hm | hm
  · have h3 := spn_ok hc hm hs
    have h4 := (h _ hm s hs).1
    simp only [spnAt, Bool.and_eq_true, decide_eq_true_eq] at hp
    omega
  · rw [hm] at hs; cases hs
theorem shC_base {c : Crew} {s : Scr} {n : Int} (hc : (checkC c).2.2 = 0) (h : ShOk c) (hn : 0 ≤ n ∧ n ≤ 255) (st : Nat) (m : Int) : baseP (shC c n) s st (m + n) = baseP c s st m := by
  unfold baseP
  rw [kndAt_eq (c := c) (d := shC c n) rfl, shC_able hc h hn]
  cases ha : ableB c (kndAt c (stpAt s st).kind) m with
  | false => simp
  | true =>
    have := able_range hc h ha
    rw [show neverB (m + n) = false by rw [neverB, outB_false]; omega, show neverB m = false by rw [neverB, outB_false]; omega]
theorem firstIn_sh {p q : Int → Bool} {n lo hi : Int} (h : ∀ v, q (v + n) = p v) (hlo : 0 ≤ lo) (hn : 0 ≤ n) : (0 ≤ firstIn q (lo + n) (hi + n) ↔ 0 ≤ firstIn p lo hi) ∧ (0 ≤ firstIn p lo hi → firstIn q (lo + n) (hi + n) = firstIn p lo hi + n) := by
  unfold firstIn
  have e : (List.range (hi + n - (lo + n) + 1).toNat).find? (fun (j : Nat) => q (lo + n + (j : Int))) = (List.range (hi - lo + 1).toNat).find? (fun (j : Nat) => p (lo + (j : Int))) := by
    rw [show hi + n - (lo + n) + 1 = hi - lo + 1 by omega]
    congr 1
    funext j
    rw [show lo + n + (j : Int) = lo + j + n by omega, h]
  rw [e]
  cases (List.range (hi - lo + 1).toNat).find? (fun (j : Nat) => p (lo + (j : Int))) with
  | none => simp
  | some j => dsimp only; exact ⟨⟨fun _ => by omega, fun _ => by omega⟩, fun _ => by omega⟩
theorem shC_canN {c : Crew} {s : Scr} {n : Int} (hc : (checkC c).2.2 = 0) (h : ShOk c) (hn : 0 ≤ n ∧ n ≤ 255) (hs : ∀ (j : Nat) y, s.steps[j]? = some y → StpOk c j y) : ∀ (d st : Nat) (m : Int), canN (shC c n) s d st (m + n) = canN c s d st m
  | 0, _, _ => rfl
  | d + 1, st, m => by
    simp only [canN]
    rw [shC_base hc h hn]
    cases hb : baseP c s st m with
    | false => simp
    | true =>
      have hm : 0 ≤ m := by
        unfold baseP at hb
        rw [Bool.and_eq_true] at hb
        exact (able_range hc h hb.2).1
      rw [Bool.true_and, Bool.true_and, Bool.eq_iff_iff, List.all_eq_true, List.all_eq_true]
      have key : ∀ k ∈ List.range s.steps.length, (decide ((stpAt s k).after ≠ (st : Int)) || decide (0 ≤ firstIn (canN (shC c n) s d k) (m + n + (stpAt s k).least) (m + n + (stpAt s k).most))) = (decide ((stpAt s k).after ≠ (st : Int)) || decide (0 ≤ firstIn (canN c s d k) (m + (stpAt s k).least) (m + (stpAt s k).most))) := fun k hk => by
        have hx := List.getElem?_eq_getElem (List.mem_range.1 hk)
        have hl := (hs k _ hx).least
        rw [← stpAt_hit hx] at hl
        have := (firstIn_sh (p := canN c s d k) (q := canN (shC c n) s d k) (n := n) (lo := m + (stpAt s k).least) (hi := m + (stpAt s k).most) (fun v => shC_canN hc h hn hs d k v) (by omega) hn.1).1
        rw [show m + n + (stpAt s k).least = m + (stpAt s k).least + n by omega, show m + n + (stpAt s k).most = m + (stpAt s k).most + n by omega]
        congr 1
        exact decide_eq_decide.2 this
      exact ⟨fun h k hk => by rw [← key k hk]; exact h k hk, fun h k hk => by rw [key k hk]; exact h k hk⟩
theorem shC_first {c : Crew} {s : Scr} {n : Int} (hc : (checkC c).2.2 = 0) (h : ShOk c) (hn : 0 ≤ n ∧ n ≤ 255) (hs : ∀ (j : Nat) y, s.steps[j]? = some y → StpOk c j y) {k : Nat} (hk : k < s.steps.length) {b : Int} (hb : 0 ≤ b) : (0 ≤ firstP (shC c n) s k (b + n) ↔ 0 ≤ firstP c s k b) ∧ (0 ≤ firstP c s k b → firstP (shC c n) s k (b + n) = firstP c s k b + n) := by
  have hx := List.getElem?_eq_getElem hk
  have hl := (hs k _ hx).least
  rw [← stpAt_hit hx] at hl
  have := firstIn_sh (p := canS c s k) (q := canS (shC c n) s k) (n := n) (lo := b + (stpAt s k).least) (hi := b + (stpAt s k).most) (fun v => shC_canN hc h hn hs _ k v) (by omega) hn.1
  unfold firstP
  rw [show b + n + (stpAt s k).least = b + (stpAt s k).least + n by omega, show b + n + (stpAt s k).most = b + (stpAt s k).most + n by omega]
  exact this
theorem befP_sh {start n : Int} {l : List Int} {x : Stp} (ha : x.after < l.length) : befP (start + n) (l.map (· + n)) x = befP start l x + n := by
  unfold befP
  split
  · rw [List.getD_eq_getElem?_getD, List.getD_eq_getElem?_getD, List.getElem?_map, List.getElem?_eq_getElem (show x.after.toNat < l.length by omega)]
    rfl
  · rfl
theorem shC_planR {c : Crew} {s : Scr} {n start : Int} (hc : (checkC c).2.2 = 0) (h : ShOk c) (hn : 0 ≤ n ∧ n ≤ 255) (hs : ∀ (j : Nat) y, s.steps[j]? = some y → StpOk c j y) (h0 : 0 ≤ start) : ∀ (r : List Stp) (i : Nat) (l : List Int), r = s.steps.drop i → l.length = i → (∀ y ∈ l, 0 ≤ y) →
    planR (shC c n) s (start + n) r i (l.map (· + n)) = (planR c s start r i l).map (List.map (· + n))
  | [], i, l, _, _, _ => rfl
  | x :: r, i, l, hr, hl, hpos => by
    have hlt : i < s.steps.length := by
      have := congrArg List.length hr
      rw [List.length_drop, List.length_cons] at this
      omega
    have hd := List.drop_eq_getElem_cons hlt
    rw [← hr] at hd
    obtain ⟨e1, e2⟩ := List.cons.inj hd
    have hx : s.steps[i]? = some x := by rw [e1]; exact List.getElem?_eq_getElem hlt
    have hax := (hs i x hx).after
    have hbp : 0 ≤ befP start l x := by
      unfold befP
      split
      · rcases getD_mem (l := l) (i := x.after.toNat) (d := (0 : Int)) with hm | hm
        · exact hpos _ hm
        · rw [hm]; exact Int.le_refl _
      · exact h0
    rw [planR_cons, planR_cons, befP_sh (by omega)]
    obtain ⟨f1, f2⟩ := shC_first hc h hn hs hlt hbp
    by_cases hneg : firstP c s i (befP start l x) < 0
    · rw [if_pos hneg, if_pos (by have := f1.1; omega)]
      rfl
    · have hge : 0 ≤ firstP c s i (befP start l x) := by omega
      rw [if_neg hneg, if_neg (by have := f1.2 hge; omega), f2 hge]
      have := shC_planR hc h hn hs h0 r (i + 1) (l ++ [firstP c s i (befP start l x)]) e2 (by simp [hl]) (fun y hy => by
        rcases List.mem_append.1 hy with hy | hy
        · exact hpos y hy
        · rw [List.mem_singleton.1 hy]; exact hge)
      rw [List.map_append] at this
      exact this
theorem shC_plan {c : Crew} {s : Scr} {n start : Int} (h : ShOk c) (hn : 0 ≤ n ∧ n ≤ 255) (h0 : 0 ≤ start ∧ start ≤ 50000) : planE (shC c n) s (start + n) = planE c s start ∧ planL (shC c n) s (start + n) = (planL c s start).map (· + n) := by
  have hck := shC_check h hn
  have hsc : scriptF (shC c n) s = scriptF c s := scriptF_eq (c := c) (d := shC c n) (by rw [hck]) rfl s
  have n1 : neverB start = false := by rw [neverB, outB_false]; omega
  have n2 : neverB (start + n) = false := by rw [neverB, outB_false]; omega
  by_cases hs : (scriptF c s).2 = 0
  · have hs' : (scriptF (shC c n) s).2 = 0 := by rw [hsc]; exact hs
    have hr := shC_planR (crew_of hs) h hn (scrOk_of hs).steps h0.1 s.steps 0 [] rfl rfl (fun y hy => (List.not_mem_nil hy).elim)
    cases hp : planR c s start s.steps 0 [] with
    | none =>
      rw [hp] at hr
      obtain ⟨a1, a2⟩ := planE_none hs n1 hp
      obtain ⟨b1, b2⟩ := planE_none hs' n2 hr
      rw [a1, a2, b1, b2]
      exact ⟨rfl, rfl⟩
    | some l =>
      rw [hp] at hr
      obtain ⟨a1, a2⟩ := planE_some hs n1 hp
      obtain ⟨b1, b2⟩ := planE_some hs' n2 hr
      rw [a1, a2, b1, b2]
      exact ⟨rfl, rfl⟩
  · obtain ⟨a1, a2⟩ := planE_bad (start := start) hs
    obtain ⟨b1, b2⟩ := planE_bad (c := shC c n) (start := start + n) (by rw [hsc]; exact hs)
    rw [a1, a2, b1, b2, hsc]
    exact ⟨rfl, rfl⟩
end Bx
namespace Bx
open Go Go.RowKit
/-- What there is more, a kind and a minute. -/
structure Xtr where
  who : Int
  sp : Spn
  gr : Int
  kind : Int
  min : Int
def xtrC (x : Xtr) : List Value := [.int .u8 x.who, .int .i64 x.sp.fr, .int .i64 x.sp.un, .int .u8 x.gr, .int .i64 x.kind, .int .i64 x.min]
def RXtr (_ : World) (cs : List Value) (x : Xtr) : Prop := cs = xtrC x ∧ (0 ≤ x.who ∧ x.who ≤ 255) ∧ (I64 x.sp.fr ∧ I64 x.sp.un) ∧ (0 ≤ x.gr ∧ x.gr ≤ 255) ∧ I64 x.kind ∧ I64 x.min
theorem opr_one {w : World} {cs : List Value} {o : Opr} (h : ROpr w cs o) : cs.all (·.oneCell') = true := by
  obtain ⟨dv, rfl, _, _, ⟨a, c, rfl, _⟩, _⟩ := h
  rfl
theorem oprs_one {w : World} : ∀ {css : List (List Value)} {l : List Opr}, Bx.Rows w 3 ROpr css l → css.flatten.all (·.oneCell') = true
  | [], [], _ => rfl
  | cs :: css, g :: l, ⟨_, h2, h3⟩ => by
    rw [List.flatten_cons, List.all_append, opr_one h2, oprs_one h3]; rfl
theorem spns_one {w : World} : ∀ {css : List (List Value)} {l : List Spn}, Bx.Rows w 2 RSpn css l → css.flatten.all (·.oneCell') = true
  | [], [], _ => rfl
  | cs :: css, g :: l, ⟨_, h2, h3⟩ => by
    obtain ⟨rfl, _⟩ := h2
    rw [List.flatten_cons, List.all_append, spns_one h3]; rfl
theorem spns_flat {w : World} : ∀ {css : List (List Value)} {l : List Spn}, Bx.Rows w 2 RSpn css l → css.flatten = l.flatMap spnC
  | [], [], _ => rfl
  | cs :: css, g :: l, ⟨_, h2, h3⟩ => by
    obtain ⟨rfl, _⟩ := h2
    rw [List.flatten_cons, List.flatMap_cons, spns_flat h3]
theorem sl_spns {w : World} {e : TypeId} {v : Value} {n : Nat} {l : List Spn} (h : w.ownsRow 0 e 2 v n (l.flatMap spnC)) (hn : l.length = n) (hok : ∀ s ∈ l, I64 s.fr ∧ I64 s.un) : Sl w 2 RSpn v l := by
  subst hn
  exact row_sl spnC_len h hok
theorem spns_64 {w : World} {v : Value} {l : List Spn} (h : Sl w 2 RSpn v l) : ∀ s ∈ l, I64 s.fr ∧ I64 s.un := sl_all h (fun _ _ hh => hh.2)
end Bx
namespace Bx
open Go Go.RowKit
structure Mor where
  who : Int
  sp : Spn
  gr : Int
def RMor (_ : World) (cs : List Value) (x : Mor) : Prop := cs = [.int .u8 x.who, .int .i64 x.sp.fr, .int .i64 x.sp.un, .int .u8 x.gr] ∧ (0 ≤ x.who ∧ x.who ≤ 255) ∧ (I64 x.sp.fr ∧ I64 x.sp.un) ∧ 0 ≤ x.gr ∧ x.gr ≤ 255
def ROprS (w : World) (cs : List Value) (o : Opr) : Prop := ROpr w cs o ∧ Room o.duty.length 16
def RCrewS (w : World) (cs : List Value) (c : Crew) : Prop := RCrew w cs c ∧ ∀ o ∈ c.ops, Room o.duty.length 16
theorem Sl.mono {α : Type} {w : World} {k : Nat} {R R' : World → List Value → α → Prop} {v : Value} {l : List α} (h : Sl w k R v l) (hr : ∀ cs x, R w cs x → R' w cs x) : Sl w k R' v l := by
  obtain ⟨a, cap, e, h1, h2, hel⟩ := h
  exact ⟨a, cap, e, h1, h2, fun i hi => by obtain ⟨b, o, cs, ha, hl, hc, hR⟩ := hel i hi; exact ⟨b, o, cs, ha, hl, hc, hr _ _ hR⟩⟩
end Bx

/- part C23 -/
namespace Bx
open Go Go.RowKit
theorem inB_not {a lo hi : Int} : (!inB a lo hi) = outB a lo hi := by
  rw [Bool.eq_iff_iff]
  simp only [Bool.not_eq_true', inB, outB, Bool.and_eq_false_iff, Bool.or_eq_true, decide_eq_true_eq, decide_eq_false_iff_not]
  omega
def errR {α : Type} (nm : α → ByteArray) (rest : α → Int) (l : List α) (i : Nat) (x : α) : Int := if (!isName (nm x)) = true then 6 else if memB (nm x) ((l.take i).map nm) = true then 5 else rest x
theorem errR_form {α : Type} {nm : α → ByteArray} {rest : α → Int} {l : List α} {i : Nat} {x : α} (h : (!isName (nm x)) = true) : errR nm rest l i x = 6 := if_pos h
theorem errR_twice {α : Type} {nm : α → ByteArray} {rest : α → Int} {l : List α} {i k : Nat} {x u : α} (h : (!isName (nm x)) = false) (hu : l[k]? = some u) (hk : k < i) (he : nm u = nm x) : errR nm rest l i x = 5 := by
  unfold errR
  rw [if_neg (by rw [h]; decide), if_pos]
  rw [memB_iff, ← he]
  exact List.mem_map.2 ⟨u, List.mem_of_getElem? (i := k) (by rw [List.getElem?_take, if_pos hk]; exact hu), rfl⟩
theorem errR_rest {α : Type} {nm : α → ByteArray} {rest : α → Int} {l : List α} {i : Nat} {x : α} (h : (!isName (nm x)) = false) (hn : ∀ k, k < i → ∀ u, l[k]? = some u → nm u ≠ nm x) : errR nm rest l i x = rest x := by
  unfold errR
  rw [if_neg (by rw [h]; decide), if_neg]
  rw [memB_iff]
  intro hm
  obtain ⟨u, hu, he⟩ := List.mem_map.1 hm
  obtain ⟨k, hk, rfl⟩ := List.getElem_of_mem hu
  rw [List.length_take] at hk
  rw [List.getElem_take] at he
  exact hn k (by omega) _ (List.getElem?_eq_getElem (by omega)) he
theorem namedR_step {α : Type} {nm : α → ByteArray} {rest : α → Int} {l : List α} {k : Nat} {x : α} (hx : l[k]? = some x) (hd : l.drop k = x :: l.drop (k + 1)) (h0 : errR nm rest l k x = 0) :
    namedR nm rest (l.drop k) ((l.take k).map nm) k = namedR nm rest (l.drop (k + 1)) ((l.take (k + 1)).map nm) ((k + 1 : Nat) : Int) := by
  rw [hd, namedR, namedR_take hx]
  unfold errR at h0
  split at h0
  · cases h0
  split at h0
  · cases h0
  rename_i h1 h2
  rw [if_neg h1, if_neg h2, if_neg (not_not_intro h0)]
  rfl
theorem namedR_hit {α : Type} {nm : α → ByteArray} {rest : α → Int} {l : List α} {k : Nat} {x : α} (hd : l.drop k = x :: l.drop (k + 1)) (h0 : errR nm rest l k x ≠ 0) :
    namedR nm rest (l.drop k) ((l.take k).map nm) k = ((k : Int), errR nm rest l k x) := by
  rw [hd, namedR]
  unfold errR at h0 ⊢
  split
  · rename_i h; rfl
  rename_i h1
  rw [if_neg h1] at h0
  split
  · rfl
  rename_i h2
  rw [if_neg h2] at h0
  rw [if_pos h0]
theorem namedR_end {α : Type} {nm : α → ByteArray} {rest : α → Int} {l : List α} {k : Nat} (hk : l.length ≤ k) : namedR nm rest (l.drop k) ((l.take k).map nm) k = (0, 0) := by
  rw [List.drop_of_length_le hk]; rfl
theorem spnBad_in (s : Spn) : ((!inB s.fr 0 100000) || (!inB s.un s.fr 100000)) = spnBad s := by
  rw [inB_not, inB_not, Bool.eq_iff_iff]
  simp only [spnBad, neverB, outB, Bool.or_eq_true, decide_eq_true_eq]
  omega
theorem oprE_1 {o : Opr} (h : (!inB o.grade 1 9) = true) : oprE o = 7 := by unfold oprE; rw [if_pos (by rw [← inB_not]; exact h)]
theorem oprE_2 {o : Opr} (h : (!inB o.grade 1 9) = false) (h2 : (6 : Int) < o.duty.length) : oprE o = 3 := by unfold oprE; rw [if_neg (by rw [← inB_not, h]; decide), if_pos h2]
theorem oprE_3 {o : Opr} (h : (!inB o.grade 1 9) = false) (h2 : ¬ (6 : Int) < o.duty.length) {s : Spn} (hs : s ∈ o.duty) (hb : spnBad s = true) : oprE o = 7 := by
  unfold oprE
  rw [if_neg (by rw [← inB_not, h]; decide), if_neg h2, if_pos (List.any_eq_true.2 ⟨s, hs, hb⟩)]
theorem oprE_0 {o : Opr} (h : (!inB o.grade 1 9) = false) (h2 : ¬ (6 : Int) < o.duty.length) (hs : ∀ k, k < o.duty.length → ∀ s, o.duty[k]? = some s → spnBad s = false) : oprE o = 0 := by
  unfold oprE
  rw [if_neg (by rw [← inB_not, h]; decide), if_neg h2, if_neg]
  intro ha
  obtain ⟨s, hs', hb⟩ := List.any_eq_true.1 ha
  obtain ⟨k, hk, rfl⟩ := List.getElem_of_mem hs'
  rw [hs k hk _ (List.getElem?_eq_getElem hk)] at hb
  cases hb
theorem kndR_in (k : Knd) : ((((!inB k.grade 1 9) || (!inB k.second 0 9)) || (!inB k.within 0 1000)) || (decide (k.second = 0) && decide (k.within ≠ 0))) = kndR k := by
  rw [inB_not, inB_not, inB_not, Bool.eq_iff_iff]
  simp only [kndR, outB, Bool.or_eq_true, Bool.and_eq_true, decide_eq_true_eq]
  omega
theorem kndE_1 {nk : Int} {k : Knd} (h : kndR k = true) : kndE nk k = 7 := by unfold kndE; rw [if_pos h]
theorem kndE_2 {nk : Int} {k : Knd} (h : kndR k = false) {x : Int} (hx : x ∈ k.keys) (hb : outB x 0 (nk - 1) = true) : kndE nk k = 4 := by
  unfold kndE; rw [if_neg (by rw [h]; decide), if_pos (List.any_eq_true.2 ⟨x, hx, hb⟩)]
theorem key_any {nk : Int} {k : Knd} (hs : ∀ j, j < k.keys.length → ∀ x, k.keys[j]? = some x → outB x 0 (nk - 1) = false) : ¬ (k.keys.any fun x => outB x 0 (nk - 1)) = true := by
  intro ha
  obtain ⟨s, hs', hb⟩ := List.any_eq_true.1 ha
  obtain ⟨j, hj, rfl⟩ := List.getElem_of_mem hs'
  rw [hs j hj _ (List.getElem?_eq_getElem hj)] at hb
  cases hb
theorem nodup_not {l : List Int} {j : Nat} {x : Int} (hx : l[j]? = some x) (hm : x ∈ l.take j) : ¬ l.Nodup := by
  intro hn
  obtain ⟨i, hi, e⟩ := List.getElem_of_mem hm
  rw [List.length_take] at hi
  rw [List.getElem_take] at e
  obtain ⟨hj, rfl⟩ := List.getElem?_eq_some_iff.1 hx
  exact List.pairwise_iff_getElem.1 hn i j (by omega) hj (by omega) e
theorem nodup_yes {l : List Int} (h : ∀ j, j < l.length → ∀ x, l[j]? = some x → x ∉ l.take j) : l.Nodup := by
  refine List.pairwise_iff_getElem.2 (fun i j hi hj hij e => ?_)
  exact h j hj _ (List.getElem?_eq_getElem hj) (List.mem_of_getElem? (i := i) (by rw [List.getElem?_take, if_pos hij, List.getElem?_eq_getElem hi, e]))
theorem kndE_3 {nk : Int} {k : Knd} (h : kndR k = false) (h2 : ¬ (k.keys.any fun x => outB x 0 (nk - 1)) = true) (hn : ¬ k.keys.Nodup) : kndE nk k = 5 := by
  unfold kndE; rw [if_neg (by rw [h]; decide), if_neg h2, if_pos hn]
theorem kndE_4 {nk : Int} {k : Knd} (h : kndR k = false) (h2 : ¬ (k.keys.any fun x => outB x 0 (nk - 1)) = true) (hn : k.keys.Nodup) (hs : kndS k = true) : kndE nk k = 2 := by
  unfold kndE; rw [if_neg (by rw [h]; decide), if_neg h2, if_neg (not_not_intro hn), if_pos hs]
theorem kndE_0 {nk : Int} {k : Knd} (h : kndR k = false) (h2 : ¬ (k.keys.any fun x => outB x 0 (nk - 1)) = true) (hn : k.keys.Nodup) (hs : kndS k = false) : kndE nk k = 0 := by
  unfold kndE; rw [if_neg (by rw [h]; decide), if_neg h2, if_neg (not_not_intro hn), if_neg (by rw [hs]; decide)]
theorem hasB_take {l : List Int} {j : Nat} {x n : Int} (h : l[j]? = some x) : (l.take (j + 1)).any (fun y => decide (y = n)) = ((l.take j).any (fun y => decide (y = n)) || decide (x = n)) := by
  rw [take_snoc h, List.any_append, List.any_cons, List.any_nil, Bool.or_false]
theorem any_mem {l : List Int} {n : Int} : (l.any fun y => decide (y = n)) = true ↔ n ∈ l := by simp [List.any_eq_true]
theorem sizeBad_in (c : Crew) : (((!inB c.ops.length 1 8) || decide ((8 : Int) < c.keys.length)) || (!inB c.kinds.length 1 8)) = sizeBad c := by rw [inB_not, inB_not]; rfl
theorem checkC_1 {c : Crew} (h : sizeBad c = true) : checkC c = (1, 0, 3) := by unfold checkC; rw [if_pos h]
theorem checkC_2 {c : Crew} {k : Int} {e : Int} (h : sizeBad c = false) (h2 : namedR (·.name) oprE c.ops [] 0 = (k, e)) (he : e ≠ 0) : checkC c = (2, k, e) := by
  unfold checkC; rw [if_neg (by rw [h]; decide), if_pos (by rw [h2]; exact he), h2]
theorem checkC_3 {c : Crew} {k : Int} {e : Int} (h : sizeBad c = false) (h2 : (namedR (·.name) oprE c.ops [] 0).2 = 0) (h3 : namedR id (fun _ => 0) c.keys [] 0 = (k, e)) (he : e ≠ 0) : checkC c = (3, k, e) := by
  unfold checkC; rw [if_neg (by rw [h]; decide), if_neg (not_not_intro h2), if_pos (by rw [h3]; exact he), h3]
theorem checkC_4 {c : Crew} {k : Int} {e : Int} (h : sizeBad c = false) (h2 : (namedR (·.name) oprE c.ops [] 0).2 = 0) (h3 : (namedR id (fun _ => 0) c.keys [] 0).2 = 0) (h4 : namedR (·.name) (kndE c.keys.length) c.kinds [] 0 = (k, e)) (he : e ≠ 0) : checkC c = (4, k, e) := by
  unfold checkC; rw [if_neg (by rw [h]; decide), if_neg (not_not_intro h2), if_neg (not_not_intro h3), if_pos (by rw [h4]; exact he), h4]
theorem checkC_0 {c : Crew} (h : sizeBad c = false) (h2 : (namedR (·.name) oprE c.ops [] 0).2 = 0) (h3 : (namedR id (fun _ => 0) c.keys [] 0).2 = 0) (h4 : (namedR (·.name) (kndE c.keys.length) c.kinds [] 0).2 = 0) : checkC c = (0, 0, 0) := by
  unfold checkC; rw [if_neg (by rw [h]; decide), if_neg (not_not_intro h2), if_neg (not_not_intro h3), if_neg (not_not_intro h4)]
def ableR (c : Crew) (k m : Int) : Int × Int × Bool := match pairsL c (kndAt c k) m with
  | [] => (0, 0, false)
  | p :: _ => (p.1, p.2, true)
end Bx

/- part C24 -/
namespace Bx
open Go Go.RowKit
def onE1 (c : Crew) (i : Int) : Int := if (checkC c).2.2 ≠ 0 then (checkC c).2.2 else if outB i 0 ((c.ops.length : Int) - 1) = true then 4 else 0
theorem onE1_yes {c : Crew} {i : Int} (h : (decide ((checkC c).2.2 = 0) && !inB i 0 ((c.ops.length : Int) - 1)) = true) : onE1 c i = 4 := by
  rw [Bool.and_eq_true, decide_eq_true_eq, inB_not] at h
  unfold onE1
  rw [if_neg (not_not_intro h.1), if_pos h.2]
theorem onE1_no {c : Crew} {i : Int} (h : (decide ((checkC c).2.2 = 0) && !inB i 0 ((c.ops.length : Int) - 1)) = false) : onE1 c i = (checkC c).2.2 := by
  rw [inB_not, Bool.and_eq_false_iff, decide_eq_false_iff_not] at h
  unfold onE1
  by_cases h0 : (checkC c).2.2 = 0
  · rw [if_neg (not_not_intro h0), if_neg (by rw [h.resolve_left (not_not_intro h0)]; decide), h0]
  · rw [if_pos h0]
theorem onE2_yes {c : Crew} {i m : Int} (h : (decide (onE1 c i = 0) && !inB m 0 100000) = true) : onE c i m = 7 := by
  rw [Bool.and_eq_true, decide_eq_true_eq, inB_not] at h
  obtain ⟨h1, h2⟩ := h
  unfold onE1 at h1
  split at h1
  · rename_i h; exact absurd h1 h
  split at h1
  · cases h1
  · rename_i h3 h4
    unfold onE
    rw [if_neg h3, if_neg h4, if_pos h2]
theorem onE2_no {c : Crew} {i m : Int} (h : (decide (onE1 c i = 0) && !inB m 0 100000) = false) : onE c i m = onE1 c i := by
  rw [inB_not, Bool.and_eq_false_iff, decide_eq_false_iff_not] at h
  unfold onE onE1
  split
  · rfl
  split
  · rfl
  · rename_i h3 h4
    rcases h with h | h
    · unfold onE1 at h; rw [if_neg h3, if_neg h4] at h; exact absurd rfl h
    · rw [if_neg (by rw [show neverB m = false from h]; decide)]
theorem onE_in {c : Crew} {i m : Int} (h : onE c i m = 0) : (0 ≤ i ∧ i < c.ops.length) ∧ 0 ≤ m ∧ m ≤ 100000 := by
  unfold onE at h
  split at h
  · rename_i h1; exact absurd h h1
  split at h
  · cases h
  split at h
  · cases h
  · rename_i h1 h2 h3
    rw [Bool.not_eq_true, outB_false] at h2
    rw [Bool.not_eq_true, neverB, outB_false] at h3
    omega
def ableE1 (c : Crew) (k : Int) : Int := if (checkC c).2.2 ≠ 0 then (checkC c).2.2 else if outB k 0 ((c.kinds.length : Int) - 1) = true then 4 else 0
theorem ableE1_yes {c : Crew} {i : Int} (h : (decide ((checkC c).2.2 = 0) && !inB i 0 ((c.kinds.length : Int) - 1)) = true) : ableE1 c i = 4 := by
  rw [Bool.and_eq_true, decide_eq_true_eq, inB_not] at h
  unfold ableE1
  rw [if_neg (not_not_intro h.1), if_pos h.2]
theorem ableE1_no {c : Crew} {i : Int} (h : (decide ((checkC c).2.2 = 0) && !inB i 0 ((c.kinds.length : Int) - 1)) = false) : ableE1 c i = (checkC c).2.2 := by
  rw [inB_not, Bool.and_eq_false_iff, decide_eq_false_iff_not] at h
  unfold ableE1
  by_cases h0 : (checkC c).2.2 = 0
  · rw [if_neg (not_not_intro h0), if_neg (by rw [h.resolve_left (not_not_intro h0)]; decide), h0]
  · rw [if_pos h0]
theorem ableE2_yes {c : Crew} {i m : Int} (h : (decide (ableE1 c i = 0) && !inB m 0 100000) = true) : ableE c i m = 7 := by
  rw [Bool.and_eq_true, decide_eq_true_eq, inB_not] at h
  obtain ⟨h1, h2⟩ := h
  unfold ableE1 at h1
  split at h1
  · rename_i h; exact absurd h1 h
  split at h1
  · cases h1
  · rename_i h3 h4
    unfold ableE
    rw [if_neg h3, if_neg h4, if_pos h2]
theorem ableE2_no {c : Crew} {i m : Int} (h : (decide (ableE1 c i = 0) && !inB m 0 100000) = false) : ableE c i m = ableE1 c i := by
  rw [inB_not, Bool.and_eq_false_iff, decide_eq_false_iff_not] at h
  unfold ableE ableE1
  split
  · rfl
  split
  · rfl
  · rename_i h3 h4
    rcases h with h | h
    · unfold ableE1 at h; rw [if_neg h3, if_neg h4] at h; exact absurd rfl h
    · rw [if_neg (by rw [show neverB m = false from h]; decide)]
theorem ableE_in {c : Crew} {i m : Int} (h : ableE c i m = 0) : (0 ≤ i ∧ i < c.kinds.length) ∧ 0 ≤ m ∧ m ≤ 100000 := by
  unfold ableE at h
  split at h
  · rename_i h1; exact absurd h h1
  split at h
  · cases h
  split at h
  · cases h
  · rename_i h1 h2 h3
    rw [Bool.not_eq_true, outB_false] at h2
    rw [Bool.not_eq_true, neverB, outB_false] at h3
    omega
theorem ableR_hit {c : Crew} {k m : Int} {p : Int × Int} (h : ([] : List (Int × Int)) ++ [p] <+: pairsL c (kndAt c k) m) : ableR c k m = (p.1, p.2, true) := by
  obtain ⟨r, hr⟩ := h
  unfold ableR
  rw [← hr]; rfl
theorem ableR_nil {c : Crew} {k m : Int} (h : pairsL c (kndAt c k) m = []) : ableR c k m = (0, 0, false) := by unfold ableR; rw [h]
theorem ableR_no {c : Crew} {k m : Int} (hE : ableE c k m = 0) (h : (ableR c k m).2.2 = false) : ableF c k m = (0, 0, 9) := by
  unfold ableR at h
  cases hp : pairsL c (kndAt c k) m with
  | nil => exact ableF_nil hE hp
  | cons p l => rw [hp] at h; cases h
theorem ableR_yes {c : Crew} {k m : Int} (hE : ableE c k m = 0) (h : (ableR c k m).2.2 = true) : ableF c k m = ((ableR c k m).1, (ableR c k m).2.1, 0) := by
  unfold ableR at h ⊢
  cases hp : pairsL c (kndAt c k) m with
  | nil => rw [hp] at h; cases h
  | cons p l => exact ableF_cons hE hp
theorem fit_no {c : Crew} {m g gr : Int} {i : Nat} (hg : gradeOf c (i : Int) = gr) (h : ((!onB c i m) || decide (gr < g)) = true) : fitB c m i g = false := by
  rw [fitB_nat, hg]
  simp only [Bool.or_eq_true, Bool.not_eq_true', decide_eq_true_eq] at h
  rw [Bool.and_eq_false_iff, decide_eq_false_iff_not]
  rcases h with h | h
  · exact .inr h
  · exact .inl (by omega)
theorem fit_yes {c : Crew} {m g gr : Int} {i : Nat} (hg : gradeOf c (i : Int) = gr) (h : ((!onB c i m) || decide (gr < g)) = false) : fitB c m i g = true := by
  rw [fitB_nat, hg]
  simp only [Bool.or_eq_false_iff, Bool.not_eq_false', decide_eq_false_iff_not] at h
  rw [Bool.and_eq_true, decide_eq_true_eq]
  exact ⟨by omega, h.1⟩
theorem fit_second {c : Crew} {m g gr i : Int} {k : Nat} (hg : gradeOf c (k : Int) = gr) : ((decide ((k : Int) ≠ i) && onB c k m) && decide (g ≤ gr)) = (decide ((k : Int) ≠ i) && fitB c m k g) := by
  rw [fitB_nat, hg, Bool.and_assoc, Bool.and_comm (onB c (k : Int) m)]
end Bx
namespace Bx
open Go Go.RowKit
def RTwoI (_ : World) (cs : List Value) (p : Int × Int) : Prop := cs = [.int .i64 p.1, .int .i64 p.2] ∧ I64 p.1 ∧ I64 p.2
theorem stepE_1 {c : Crew} {i : Int} {x : Stp} (h : (!inB x.kind 0 ((c.kinds.length : Int) - 1)) = true) : stepE c i x = 4 := by unfold stepE; rw [if_pos (by rw [← inB_not]; exact h)]
theorem stepE_2 {c : Crew} {i : Int} {x : Stp} (h : (!inB x.kind 0 ((c.kinds.length : Int) - 1)) = false) (h2 : (!inB x.subj 0 1000) = true) : stepE c i x = 7 := by unfold stepE; rw [if_neg (by rw [← inB_not, h]; decide), if_pos (by rw [← inB_not]; exact h2)]
theorem stepE_3 {c : Crew} {i : Int} {x : Stp} (h : (!inB x.kind 0 ((c.kinds.length : Int) - 1)) = false) (h2 : (!inB x.subj 0 1000) = false) (h3 : (!inB x.after (-1) (i - 1)) = true) : stepE c i x = 4 := by
  unfold stepE; rw [if_neg (by rw [← inB_not, h]; decide), if_neg (by rw [← inB_not, h2]; decide), if_pos (by rw [← inB_not]; exact h3)]
theorem stepE_4 {c : Crew} {i : Int} {x : Stp} (h : (!inB x.kind 0 ((c.kinds.length : Int) - 1)) = false) (h2 : (!inB x.subj 0 1000) = false) (h3 : (!inB x.after (-1) (i - 1)) = false) (h4 : ((!inB x.most 0 240) || (!inB x.least 0 x.most)) = true) : stepE c i x = 7 := by
  unfold stepE; rw [if_neg (by rw [← inB_not, h]; decide), if_neg (by rw [← inB_not, h2]; decide), if_neg (by rw [← inB_not, h3]; decide), if_pos (by rw [← inB_not, ← inB_not]; exact h4)]
theorem stepE_0 {c : Crew} {i : Int} {x : Stp} (h : (!inB x.kind 0 ((c.kinds.length : Int) - 1)) = false) (h2 : (!inB x.subj 0 1000) = false) (h3 : (!inB x.after (-1) (i - 1)) = false) (h4 : ((!inB x.most 0 240) || (!inB x.least 0 x.most)) = false) : stepE c i x = 0 := by
  unfold stepE; rw [if_neg (by rw [← inB_not, h]; decide), if_neg (by rw [← inB_not, h2]; decide), if_neg (by rw [← inB_not, h3]; decide), if_neg (by rw [← inB_not, ← inB_not, h4]; decide)]
theorem scriptF_1 {c : Crew} {s : Scr} (h : (checkC c).2.2 ≠ 0) : scriptF c s = (-1, (checkC c).2.2) := if_pos h
theorem scriptF_2 {c : Crew} {s : Scr} (h : (checkC c).2.2 = 0) (h2 : (!isName s.name) = true) : scriptF c s = (-1, 6) := by unfold scriptF; rw [if_neg (not_not_intro h), if_pos h2]
theorem scriptF_3 {c : Crew} {s : Scr} (h : (checkC c).2.2 = 0) (h2 : (!isName s.name) = false) (h3 : (!inB (s.steps.length : Int) 1 10) = true) : scriptF c s = (-1, 3) := by
  unfold scriptF; rw [if_neg (not_not_intro h), if_neg (by rw [h2]; decide), if_pos (by rw [← inB_not]; exact h3)]
theorem scriptF_4 {c : Crew} {s : Scr} (h : (checkC c).2.2 = 0) (h2 : (!isName s.name) = false) (h3 : (!inB (s.steps.length : Int) 1 10) = false) : scriptF c s = firstS c s.steps 0 := by
  unfold scriptF; rw [if_neg (not_not_intro h), if_neg (by rw [h2]; decide), if_neg (by rw [← inB_not, h3]; decide)]
theorem winS_ref {l : List (Int × Int)} {x : Stp} {a : Nat} {y : Int × Int} (ha : x.after = a) (hy : l[a]? = some y) : winS l x = (y.1 + x.least, y.2 + x.most) := by
  rw [winS_yes ha hy, Int.add_comm, Int.add_comm x.most]
end Bx

