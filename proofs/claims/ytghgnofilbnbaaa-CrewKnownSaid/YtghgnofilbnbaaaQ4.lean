/- Merged texts, part 4. -/
import Derived.Test.YtghgnofilbnbaaaQ3
set_option linter.all false
/- part Ck22 -/
namespace Go.Proofs.Ytghgnofilbnbaaa
open Go Bx
set_option maxHeartbeats 1000000 in
/-- barrage/crew.Plan closure 1 -/
theorem c_first {c : Crew} {s : Scr} {a an ax : Option Addr} {cap cn cps p3 p4 p10 p11 p12 b : Nat} {kv : Value} {w0 : World} (h : RCrew w0 [.slice a c.ops.length cap, kv, .slice an c.kinds.length cn] c) (hst : Sl w0 5 RStp (.slice ax s.steps.length cps) s.steps) (hok : ScrOk c s) {st : Nat} (hlt : st < s.steps.length) (HC : (∀ (m : Int) (M : List ((Int × Int) × Value)) (L : List Bx.Item) (w : World), 0 ≤ m ∧ m ≤ 100240 → MemOk c s M → StX [] w0 w ([blk p10 [.map (some b)] 100, mapI b encSp M, blk p3 [.slice a c.ops.length cap, kv, .slice an c.kinds.length cn] 26, blk p4 [.string s.name, .slice ax s.steps.length cps] 29, blk p11 [.func (.func 44) #[] ([.pointer (some ⟨p10, 0, none⟩), .pointer (some ⟨p3, 0, none⟩), .pointer (some ⟨p4, 0, none⟩), .pointer (some ⟨p12, 0, none⟩)] : List Value).toArray] 101, blk p12 [.func (.func 43) #[] ([.pointer (some ⟨p4, 0, none⟩), .pointer (some ⟨p11, 0, none⟩)] : List Value).toArray] 102] ++ L) → CE Try.prog 44 (([.int .i64 (st : Int), .int .i64 m] : List Value) ++ ([.pointer (some ⟨p10, 0, none⟩), .pointer (some ⟨p3, 0, none⟩), .pointer (some ⟨p4, 0, none⟩), .pointer (some ⟨p12, 0, none⟩)] : List Value)).toArray w (fun u w' => u = .bool (canS c s st m) ∧ ∃ M' : List ((Int × Int) × Value), MemOk c s M' ∧ StX [] w0 w' ([blk p10 [.map (some b)] 100, mapI b encSp M', blk p3 [.slice a c.ops.length cap, kv, .slice an c.kinds.length cn] 26, blk p4 [.string s.name, .slice ax s.steps.length cps] 29, blk p11 [.func (.func 44) #[] ([.pointer (some ⟨p10, 0, none⟩), .pointer (some ⟨p3, 0, none⟩), .pointer (some ⟨p4, 0, none⟩), .pointer (some ⟨p12, 0, none⟩)] : List Value).toArray] 101, blk p12 [.func (.func 43) #[] ([.pointer (some ⟨p4, 0, none⟩), .pointer (some ⟨p11, 0, none⟩)] : List Value).toArray] 102] ++ L)))) {m0 : Int} (hm0 : 0 ≤ m0 ∧ m0 ≤ 100000) {M : List ((Int × Int) × Value)} (hM : MemOk c s M) {L : List Bx.Item} {w : World} (hS : StX [] w0 w (blk p10 [.map (some b)] 100 :: mapI b encSp M :: blk p3 [.slice a c.ops.length cap, kv, .slice an c.kinds.length cn] 26 :: blk p4 [.string s.name, .slice ax s.steps.length cps] 29 :: blk p11 [.func (.func 44) #[] ([.pointer (some ⟨p10, 0, none⟩), .pointer (some ⟨p3, 0, none⟩), .pointer (some ⟨p4, 0, none⟩), .pointer (some ⟨p12, 0, none⟩)] : List Value).toArray] 101 :: blk p12 [.func (.func 43) #[] ([.pointer (some ⟨p4, 0, none⟩), .pointer (some ⟨p11, 0, none⟩)] : List Value).toArray] 102 :: L)) : CE Try.prog 43 #[.int .i64 (st : Int), .int .i64 m0, .pointer (some ⟨p4, 0, none⟩), .pointer (some ⟨p11, 0, none⟩)] w (fun u w' => u = .int .i64 (firstP c s st m0) ∧ ∃ M' : List ((Int × Int) × Value), MemOk c s M' ∧ StX [] w0 w' ([blk p10 [.map (some b)] 100, mapI b encSp M', blk p3 [.slice a c.ops.length cap, kv, .slice an c.kinds.length cn] 26, blk p4 [.string s.name, .slice ax s.steps.length cps] 29, blk p11 [.func (.func 44) #[] ([.pointer (some ⟨p10, 0, none⟩), .pointer (some ⟨p3, 0, none⟩), .pointer (some ⟨p4, 0, none⟩), .pointer (some ⟨p12, 0, none⟩)] : List Value).toArray] 101, blk p12 [.func (.func 43) #[] ([.pointer (some ⟨p4, 0, none⟩), .pointer (some ⟨p11, 0, none⟩)] : List Value).toArray] 102] ++ L)) := by
  obtain ⟨ov, kv2, nv2, he, hso, -, hsn, hrm⟩ := id h
  cases he
  obtain ⟨an', cn', hv2, hncap, hnmx, heln⟩ := id hsn
  obtain ⟨rfl, rfl⟩ := slice_inj hv2.symm
  obtain ⟨ax', cx', hv3, hacap, hamx, hels⟩ := id hst
  obtain ⟨rfl, rfl⟩ := slice_inj hv3.symm
  obtain ⟨x, hxq, hdq⟩ := drop_of (l := s.steps) (k := st) (by omega)
  obtain ⟨bq, oq, csq, haq, hlenq, hcsq, hRq⟩ := hels (st) (by omega)
  obtain rfl : x = s.steps[st] := (List.getElem?_eq_some_iff.1 hxq).2.symm
  generalize s.steps[st] = x at hxq hdq hRq
  obtain ⟨rfl, hxi⟩ := hRq
  have hx := stpAt_hit hxq
  have hsx := hok.steps st x hxq
  have hx4 := hsx.most
  have hx5 := hsx.least
  refine enter Try.func43 rfl Try.ntmps43 rfl ?_
  skip
  refine seq ?_
  refine region ?_
  refine sv (yAsg rfl) ?_
  refine nil ?_
  show Code.wp _ _ _ _ _
  refine seq ?_
  refine seq ?_
  refine region ?_
  refine sv (yMove rfl) ?_
  refine sv (fa29_1 rfl) ?_
  refine sv (yLdB rfl Try.isAgg27 (hS.at _) rfl) ?_
  refine sv (yMove rfl) ?_
  refine sv (yIxa rfl haq rfl Try.runUnderlying27 Try.sizeOf89 (by omega) (by omega)) ?_
  refine sv (fa89_3 rfl) ?_
  refine sv (yLd rfl Try.isAgg3 ((hcsq.ext hS.ext).at (j := 3) rfl)) ?_
  refine sv (yAdd rfl rfl ⟨by omega, by omega⟩) ?_
  refine sv (yAsg rfl) ?_
  refine nil ?_
  show Code.wp _ _ _ _ _
  refine block ?_
  refine loop (fun f w zz => ∃ (j : Nat) (M : List ((Int × Int) × Value)), f 0 = .int .i64 (st : Int) ∧ f 1 = .int .i64 m0 ∧ f 2 = .pointer (some ⟨p4, 0, none⟩) ∧ f 3 = .pointer (some ⟨p11, 0, none⟩) ∧ f 7 = .int .i64 (m0 + x.least + (j : Int)) ∧ StX [] w0 w (blk p10 [.map (some b)] 100 :: mapI b encSp M :: blk p3 [.slice a c.ops.length cap, kv, .slice an c.kinds.length cn] 26 :: blk p4 [.string s.name, .slice ax s.steps.length cps] 29 :: blk p11 [.func (.func 44) #[] ([.pointer (some ⟨p10, 0, none⟩), .pointer (some ⟨p3, 0, none⟩), .pointer (some ⟨p4, 0, none⟩), .pointer (some ⟨p12, 0, none⟩)] : List Value).toArray] 101 :: blk p12 [.func (.func 43) #[] ([.pointer (some ⟨p4, 0, none⟩), .pointer (some ⟨p11, 0, none⟩)] : List Value).toArray] 102 :: L) ∧ (MemOk c s M) ∧ (∀ i : Nat, i < j → canS c s st (m0 + x.least + (i : Int)) = false) ∧ (x.least + (j : Int) ≤ x.most + 1) ∧ zz = (x.most + 1 - (x.least + (j : Int))).toNat) _ ⟨_, rfl, 0, _, rfl, rfl, rfl, rfl, rfl.trans (congrArg (Value.int .i64) (Int.add_zero _).symm), hS, (hM), (fun i hi => absurd hi (Nat.not_lt_zero i)), (by omega), rfl⟩ ?_
  clear hS
  rintro f w _ ⟨j, M, h0, h1, h2, h3, h7, hS, hM, hN, hj, rfl⟩
  refine seq ?_
  refine seq ?_
  refine region ?_
  refine sv (yMove h7) ?_
  refine sv (yMove h1) ?_
  refine sv (fa29_1 h2) ?_
  refine sv (yLdB rfl Try.isAgg27 (hS.at _) rfl) ?_
  refine sv (yMove h0) ?_
  refine sv (yIxa rfl haq rfl Try.runUnderlying27 Try.sizeOf89 (by omega) (by omega)) ?_
  refine sv (fa89_4 rfl) ?_
  refine sv (yLd rfl Try.isAgg3 ((hcsq.ext hS.ext).at (j := 4) rfl)) ?_
  refine sv (yAdd rfl rfl ⟨by omega, by omega⟩) ?_
  refine sv (yLeq rfl rfl) ?_
  refine nil ?_
  show Code.wp _ _ _ _ _
  refine cond rfl (fun c25 => ?_) (fun c25 => ?_)
  ·
    simp only [Bool.and_eq_true, Bool.or_eq_true, Bool.and_eq_false_iff, Bool.or_eq_false_iff, decide_eq_true_eq, decide_eq_false_iff_not, Bool.not_eq_true, Bool.not_eq_false, Bool.not_not, Bool.not_eq_eq_eq_not, Bool.not_true, Bool.not_false, Bool.false_eq_true, Bool.true_eq_false, ne_eq, Decidable.not_not, not_false_eq_true, not_true_eq_false] at c25
    refine skip ?_
    show Code.wp _ _ _ _ _
    refine seq ?_
    refine block ?_
    refine seq ?_
    refine region ?_
    refine sv (yLdB h3 Try.isAgg101 (hS.at _) rfl) ?_
    refine sv (yMove h0) ?_
    refine sv (yMove h7) ?_
    refine scallf rfl Try.call44 (.cons rfl (.cons rfl .nil)) (HC (m0 + x.least + (j : Int)) M L _ ⟨by omega, by omega⟩ hM hS) ?_
    rintro _ w ⟨rfl, M', hM', hS2⟩; clear hS; have hS : StX [] w0 w (blk p10 [.map (some b)] 100 :: mapI b encSp M' :: blk p3 [.slice a c.ops.length cap, kv, .slice an c.kinds.length cn] 26 :: blk p4 [.string s.name, .slice ax s.steps.length cps] 29 :: blk p11 [.func (.func 44) #[] ([.pointer (some ⟨p10, 0, none⟩), .pointer (some ⟨p3, 0, none⟩), .pointer (some ⟨p4, 0, none⟩), .pointer (some ⟨p12, 0, none⟩)] : List Value).toArray] 101 :: blk p12 [.func (.func 43) #[] ([.pointer (some ⟨p4, 0, none⟩), .pointer (some ⟨p11, 0, none⟩)] : List Value).toArray] 102 :: L) := hS2; clear hS2
    refine nil ?_
    show Code.wp _ _ _ _ _
    refine cond rfl (fun c31 => ?_) (fun c31 => ?_)
    ·
      refine seq ?_
      refine region ?_
      refine sv (yMove h7) ?_
      refine sv (yAsg rfl) ?_
      refine nil ?_
      show Code.wp _ _ _ _ _
      refine wp_ret (blockR (thenR (thenR (blockR (thenR ?_)))))
      refine retQ (res1 rfl rfl) ?_
      exact ⟨by (rw [show firstP c s st m0 = m0 + x.least + (j : Int) from by unfold firstP; rw [hx]; exact firstIn_hit (by omega) c31 hN]; try rfl), M', hM', hS⟩
    ·
      refine skip ?_
      show Code.wp _ _ _ _ _
      refine region ?_
      refine sv (yMove h7) ?_
      refine sv (yAdd rfl rfl ⟨by omega, by omega⟩) ?_
      refine sv (yAsg rfl) ?_
      refine nil ?_
      exact ⟨_, _, rfl, ⟨j + 1, M', h0, h1, h2, h3, rfl.trans (congrArg (Value.int .i64) (by omega)), hS, (hM'), (snoc hN c31), (by omega), rfl⟩, by omega⟩
  ·
    simp only [Bool.and_eq_true, Bool.or_eq_true, Bool.and_eq_false_iff, Bool.or_eq_false_iff, decide_eq_true_eq, decide_eq_false_iff_not, Bool.not_eq_true, Bool.not_eq_false, Bool.not_not, Bool.not_eq_eq_eq_not, Bool.not_true, Bool.not_false, Bool.false_eq_true, Bool.true_eq_false, ne_eq, Decidable.not_not, not_false_eq_true, not_true_eq_false] at c25
    refine exit ?_
    show Code.wp _ _ _ _ _
    refine seq ?_
    refine region ?_
    refine sv (yAsg rfl) ?_
    refine nil ?_
    show Code.wp _ _ _ _ _
    refine wp_ret ?_
    refine retQ (res1 rfl rfl) ?_
    exact ⟨by (rw [show firstP c s st m0 = -1 from by unfold firstP; rw [hx]; exact firstIn_none (fun i hi => hN i (by omega))]; try rfl), M, hM, hS⟩
set_option maxHeartbeats 2000000 in
/-- barrage/crew.Plan closure 2 -/
theorem c_can {c : Crew} {s : Scr} {a an ax : Option Addr} {cap cn cps p3 p4 p10 p11 p12 b : Nat} {kv : Value} {w0 : World} (h : RCrew w0 [.slice a c.ops.length cap, kv, .slice an c.kinds.length cn] c) (hst : Sl w0 5 RStp (.slice ax s.steps.length cps) s.steps) (hok : ScrOk c s) {st : Nat} (hlt : st < s.steps.length) (HF : ∀ k : Nat, st < k → k < s.steps.length → (∀ (m : Int) (M : List ((Int × Int) × Value)) (L : List Bx.Item) (w : World), 0 ≤ m ∧ m ≤ 100000 → MemOk c s M → StX [] w0 w ([blk p10 [.map (some b)] 100, mapI b encSp M, blk p3 [.slice a c.ops.length cap, kv, .slice an c.kinds.length cn] 26, blk p4 [.string s.name, .slice ax s.steps.length cps] 29, blk p11 [.func (.func 44) #[] ([.pointer (some ⟨p10, 0, none⟩), .pointer (some ⟨p3, 0, none⟩), .pointer (some ⟨p4, 0, none⟩), .pointer (some ⟨p12, 0, none⟩)] : List Value).toArray] 101, blk p12 [.func (.func 43) #[] ([.pointer (some ⟨p4, 0, none⟩), .pointer (some ⟨p11, 0, none⟩)] : List Value).toArray] 102] ++ L) → CE Try.prog 43 (([.int .i64 (k : Int), .int .i64 m] : List Value) ++ ([.pointer (some ⟨p4, 0, none⟩), .pointer (some ⟨p11, 0, none⟩)] : List Value)).toArray w (fun u w' => u = .int .i64 (firstP c s k m) ∧ ∃ M' : List ((Int × Int) × Value), MemOk c s M' ∧ StX [] w0 w' ([blk p10 [.map (some b)] 100, mapI b encSp M', blk p3 [.slice a c.ops.length cap, kv, .slice an c.kinds.length cn] 26, blk p4 [.string s.name, .slice ax s.steps.length cps] 29, blk p11 [.func (.func 44) #[] ([.pointer (some ⟨p10, 0, none⟩), .pointer (some ⟨p3, 0, none⟩), .pointer (some ⟨p4, 0, none⟩), .pointer (some ⟨p12, 0, none⟩)] : List Value).toArray] 101, blk p12 [.func (.func 43) #[] ([.pointer (some ⟨p4, 0, none⟩), .pointer (some ⟨p11, 0, none⟩)] : List Value).toArray] 102] ++ L)))) {m : Int} (hm : 0 ≤ m ∧ m ≤ 100240) {M : List ((Int × Int) × Value)} (hM : MemOk c s M) {L : List Bx.Item} {w : World} (hS : StX [] w0 w (blk p10 [.map (some b)] 100 :: mapI b encSp M :: blk p3 [.slice a c.ops.length cap, kv, .slice an c.kinds.length cn] 26 :: blk p4 [.string s.name, .slice ax s.steps.length cps] 29 :: blk p11 [.func (.func 44) #[] ([.pointer (some ⟨p10, 0, none⟩), .pointer (some ⟨p3, 0, none⟩), .pointer (some ⟨p4, 0, none⟩), .pointer (some ⟨p12, 0, none⟩)] : List Value).toArray] 101 :: blk p12 [.func (.func 43) #[] ([.pointer (some ⟨p4, 0, none⟩), .pointer (some ⟨p11, 0, none⟩)] : List Value).toArray] 102 :: L)) : CE Try.prog 44 #[.int .i64 (st : Int), .int .i64 m, .pointer (some ⟨p10, 0, none⟩), .pointer (some ⟨p3, 0, none⟩), .pointer (some ⟨p4, 0, none⟩), .pointer (some ⟨p12, 0, none⟩)] w (fun u w' => u = .bool (canS c s st m) ∧ ∃ M' : List ((Int × Int) × Value), MemOk c s M' ∧ StX [] w0 w' ([blk p10 [.map (some b)] 100, mapI b encSp M', blk p3 [.slice a c.ops.length cap, kv, .slice an c.kinds.length cn] 26, blk p4 [.string s.name, .slice ax s.steps.length cps] 29, blk p11 [.func (.func 44) #[] ([.pointer (some ⟨p10, 0, none⟩), .pointer (some ⟨p3, 0, none⟩), .pointer (some ⟨p4, 0, none⟩), .pointer (some ⟨p12, 0, none⟩)] : List Value).toArray] 101, blk p12 [.func (.func 43) #[] ([.pointer (some ⟨p4, 0, none⟩), .pointer (some ⟨p11, 0, none⟩)] : List Value).toArray] 102] ++ L)) := by
  obtain ⟨ov, kv2, nv2, he, hso, -, hsn, hrm⟩ := id h
  cases he
  obtain ⟨an', cn', hv2, hncap, hnmx, heln⟩ := id hsn
  obtain ⟨rfl, rfl⟩ := slice_inj hv2.symm
  obtain ⟨ax', cx', hv3, hacap, hamx, hels⟩ := id hst
  obtain ⟨rfl, rfl⟩ := slice_inj hv3.symm
  obtain ⟨x, hxq, hdq⟩ := drop_of (l := s.steps) (k := st) (by omega)
  obtain ⟨bq, oq, csq, haq, hlenq, hcsq, hRq⟩ := hels (st) (by omega)
  obtain rfl : x = s.steps[st] := (List.getElem?_eq_some_iff.1 hxq).2.symm
  generalize s.steps[st] = x at hxq hdq hRq
  obtain ⟨rfl, hxi⟩ := hRq
  have hx := stpAt_hit hxq
  have hsx := hok.steps st x hxq
  have hx4 := hsx.most
  have hx5 := hsx.least
  obtain ⟨kk, hkk⟩ := Int.eq_ofNat_of_zero_le hsx.kind.1
  have hkl : kk < c.kinds.length := by have := hsx.kind; omega
  obtain ⟨z, hxt, hdt⟩ := drop_of (l := c.kinds) (k := kk) (by omega)
  obtain ⟨bt, ot, cst, hat, hlent, hcst, hRt⟩ := heln (kk) (by omega)
  obtain rfl : z = c.kinds[kk] := (List.getElem?_eq_some_iff.1 hxt).2.symm
  generalize c.kinds[kk] = z at hxt hdt hRt
  obtain ⟨xv, rfl, -⟩ := hRt
  have hz := kndAt_hit hkk hxt
  have hB0 := baseP_eq (m := m) hx hz
  refine enter Try.func44 rfl Try.ntmps44 rfl ?_
  skip
  refine seq ?_
  refine region ?_
  refine sv (yAsg rfl) ?_
  refine nil ?_
  show Code.wp _ _ _ _ _
  refine seq ?_
  refine seq ?_
  refine region ?_
  refine sv (yLdB rfl Try.isAgg100 (hS.at _) rfl) ?_
  refine sv (yMove rfl) ?_
  refine sv (yMove rfl) ?_
  refine sv (yBuild Try.zeroValue105 rfl pl105 (.cons rfl rfl (.cons rfl rfl .nil)) rfl) ?_
  refine sv (yLookOk2 encSp (k := ((st : Int), m)) rfl rfl Try.runUnderlying100 keySp Try.zeroValue4 (hS.is _) rfl) ?_
  refine sv (yMove rfl) ?_
  refine sv (yExt rfl rfl) ?_
  refine sv (yExt rfl rfl) ?_
  refine sv (yAsg rfl) ?_
  refine sv (yAsg rfl) ?_
  refine nil ?_
  show Code.wp _ _ _ _ _
  refine seq ?_
  refine region ?_
  refine sv (yMove rfl) ?_
  refine nil ?_
  show Code.wp _ _ _ _ _
  refine cond rfl (fun c22 => ?_) (fun c22 => ?_)
  ·
    refine seq ?_
    refine region ?_
    refine sv (yMove rfl) ?_
    refine sv (yAsg rfl) ?_
    refine nil ?_
    show Code.wp _ _ _ _ _
    refine wp_ret (thenR ?_)
    refine retQ (res1 rfl rfl) ?_
    exact ⟨hM.get c22, M, hM, hS⟩
  ·
    refine skip ?_
    show Code.wp _ _ _ _ _
    refine seq ?_
    refine region_draw mixed (by kernel_rfl) hS ?_
    refine qv (fun w hS => (yMove rfl)) ?_
    refine qcall Try.call42 (.cons rfl .nil) (fun w hS => c_never) ?_
    refine qv (fun w hS => (yNot rfl)) ?_
    refine qv (fun w hS => (yMove rfl)) ?_
    refine qg rfl rfl rfl (fun g w hS => (yLdBA rfl Try.isAgg26 Try.sizeOf26 (hS.at _) rfl rfl)) (fun v28 g28 => ?_)
    refine qg rfl rfl rfl (fun g w hS => (fa26_2 rfl)) (fun v29 g29 => ?_)
    refine qg rfl rfl rfl (fun g w hS => (yLdB (g29.1 g) Try.isAgg24 (hS.at _) rfl)) (fun v30 g30 => ?_)
    refine qg rfl rfl rfl (fun g w hS => (fa29_1 rfl)) (fun v31 g31 => ?_)
    refine qg rfl rfl rfl (fun g w hS => (yLdB (g31.1 g) Try.isAgg27 (hS.at _) rfl)) (fun v32 g32 => ?_)
    refine qg rfl rfl rfl (fun g w hS => (yMove rfl)) (fun v33 g33 => ?_)
    refine qg rfl rfl rfl (fun g w hS => (yIxa (g32.1 g) haq (g33.1 g) Try.runUnderlying27 Try.sizeOf89 (by omega) (by omega))) (fun v34 g34 => ?_)
    refine qg rfl rfl rfl (fun g w hS => (fa89_0 (g34.1 g))) (fun v35 g35 => ?_)
    refine qg rfl rfl rfl (fun g w hS => (yLd (g35.1 g) Try.isAgg3 ((hcsq.ext hS.ext).at (j := 0) rfl))) (fun v36 g36 => ?_)
    refine qg rfl rfl rfl (fun g w hS => (yIxa (g30.1 g) hat ((g36.1 g).trans (congrArg (Value.int .i64) hkk)) Try.runUnderlying24 Try.sizeOf79 (by omega) (by omega))) (fun v37 g37 => ?_)
    refine qg rfl rfl rfl (fun g w hS => (yLdA (g37.1 g) Try.isAgg79 Try.sizeOf79 (hcst.ext hS.ext) rfl)) (fun v38 g38 => ?_)
    refine qg rfl rfl rfl (fun g w hS => (yMove rfl)) (fun v39 g39 => ?_)
    refine qgc rfl rfl rfl Try.call45 (fun g => (.cons (g28.1 g) (.cons (g38.1 g) (.cons (g39.1 g) .nil)))) (fun g w hS => (c_able (x := z) (h.ext hS.ext))) (fun v40 g40 => ?_)
    refine qv (fun w hS => (yAnd rfl (fun hB => (g40.1 hB)) rfl)) ?_
    refine qv (fun w hS => (yAsg rfl)) ?_
    clear hS; refine qnil (fun w hS => ?_)
    show Code.wp _ _ _ _ _
    refine seq ?_
    refine seq ?_
    refine region ?_
    refine sv (fa29_1 rfl) ?_
    refine sv (yLdB rfl Try.isAgg27 (hS.at _) rfl) ?_
    refine sv (yLen rfl Try.underlying27) ?_
    refine sv (yMove rfl) ?_
    refine nil ?_
    show Code.wp _ _ _ _ _
    refine block ?_
    refine loop (fun f w zz => ∃ (k : Nat) (M : List ((Int × Int) × Value)), f 0 = .int .i64 (st : Int) ∧ f 1 = .int .i64 m ∧ f 2 = .pointer (some ⟨p10, 0, none⟩) ∧ f 5 = .pointer (some ⟨p12, 0, none⟩) ∧ f 11 = .bool (accK c s st m k) ∧ f 43 = .slice ax s.steps.length cps ∧ f 44 = .int .i64 (s.steps.length : Int) ∧ f 45 = .int .i64 (k : Int) ∧ StX [] w0 w (blk p10 [.map (some b)] 100 :: mapI b encSp M :: blk p3 [.slice a c.ops.length cap, kv, .slice an c.kinds.length cn] 26 :: blk p4 [.string s.name, .slice ax s.steps.length cps] 29 :: blk p11 [.func (.func 44) #[] ([.pointer (some ⟨p10, 0, none⟩), .pointer (some ⟨p3, 0, none⟩), .pointer (some ⟨p4, 0, none⟩), .pointer (some ⟨p12, 0, none⟩)] : List Value).toArray] 101 :: blk p12 [.func (.func 43) #[] ([.pointer (some ⟨p4, 0, none⟩), .pointer (some ⟨p11, 0, none⟩)] : List Value).toArray] 102 :: L) ∧ (MemOk c s M) ∧ (k ≤ s.steps.length) ∧ zz = s.steps.length - k) _ ⟨_, rfl, 0, _, rfl, rfl, rfl, rfl, rfl.trans (congrArg Value.bool ((accK_zero c s st m).trans hB0).symm), rfl, rfl, rfl, hS, (hM), (Nat.zero_le _), rfl⟩ ?_
    clear hS
    rintro f w _ ⟨k, M, h0, h1, h2, h5, h11, h43, h44, h45, hS, hM, hk, rfl⟩
    refine seq ?_
    refine region ?_
    refine sv (yLss h45 h44) ?_
    refine nil ?_
    show Code.wp _ _ _ _ _
    refine seq ?_
    refine cond rfl (fun c46 => ?_) (fun c46 => ?_)
    ·
      simp only [Bool.and_eq_true, Bool.or_eq_true, Bool.and_eq_false_iff, Bool.or_eq_false_iff, decide_eq_true_eq, decide_eq_false_iff_not, Bool.not_eq_true, Bool.not_eq_false, Bool.not_not, Bool.not_eq_eq_eq_not, Bool.not_true, Bool.not_false, Bool.false_eq_true, Bool.true_eq_false, ne_eq, Decidable.not_not, not_false_eq_true, not_true_eq_false] at c46
      refine skip ?_
      show Code.wp _ _ _ _ _
      refine seq ?_
      refine block ?_
      refine seq ?_
      refine region ?_
      refine sv (yMove h45) ?_
      obtain ⟨y, hxv, hdv⟩ := drop_of (l := s.steps) (k := k) (by omega)
      obtain ⟨bv, ov, csv, hav, hlenv, hcsv, hRv⟩ := hels (k) (by omega)
      obtain rfl : y = s.steps[k] := (List.getElem?_eq_some_iff.1 hxv).2.symm
      generalize s.steps[k] = y at hxv hdv hRv
      obtain ⟨rfl, hyi⟩ := hRv
      have hyk := stpAt_hit hxv
      have hsy := hok.steps k y hxv
      refine sv (yIxa h43 hav h45 Try.runUnderlying27 Try.sizeOf89 (by omega) (by omega)) ?_
      refine sv (yLdA rfl Try.isAgg89 Try.sizeOf89 (hcsv.ext hS.ext) rfl) ?_
      refine salloc hS Try.zeroValue89 rfl ?_; clear hS; intro b13 w hS
      refine sv (yAsg rfl) ?_
      refine sst hS rfl rfl Try.sizeOf89 rfl rfl rfl rfl ?_; clear hS; intro w hS
      refine nil ?_
      show Code.wp _ _ _ _ _
      refine region ?_
      replace hS : StX [] w0 w (blk b13 [.int .i64 y.kind, .int .i64 y.subj, .int .i64 y.after, .int .i64 y.least, .int .i64 y.most] 89 :: blk p10 [.map (some b)] 100 :: mapI b encSp M :: blk p3 [.slice a c.ops.length cap, kv, .slice an c.kinds.length cn] 26 :: blk p4 [.string s.name, .slice ax s.steps.length cps] 29 :: blk p11 [.func (.func 44) #[] ([.pointer (some ⟨p10, 0, none⟩), .pointer (some ⟨p3, 0, none⟩), .pointer (some ⟨p4, 0, none⟩), .pointer (some ⟨p12, 0, none⟩)] : List Value).toArray] 101 :: blk p12 [.func (.func 43) #[] ([.pointer (some ⟨p4, 0, none⟩), .pointer (some ⟨p11, 0, none⟩)] : List Value).toArray] 102 :: L) := hS
      refine sv (yMove h11) ?_
      refine sv (yMove rfl) ?_
      refine sg rfl rfl rfl (fun g => (fa89_2 rfl)) (fun v52 g52 => ?_)
      refine sg rfl rfl rfl (fun g => (yLdB (g52.1 g) Try.isAgg3 (hS.at _) rfl)) (fun v53 g53 => ?_)
      refine sg rfl rfl rfl (fun g => (yMove h0)) (fun v54 g54 => ?_)
      refine sg rfl rfl rfl (fun g => (yNeq (g53.1 g) (g54.1 g))) (fun v55 g55 => ?_)
      refine sg rfl rfl rfl (fun g => (yMove (g55.1 g))) (fun v56 g56 => ?_)
      refine sgg rfl rfl g56 (fun g => (yLdB h5 Try.isAgg102 (hS.at _) rfl)) (fun v57 g57 => ?_)
      refine sgg rfl rfl g56 (fun g => (yMove rfl)) (fun v58 g58 => ?_)
      refine sgg rfl rfl g56 (fun g => (yMove h1)) (fun v59 g59 => ?_)
      refine sggR (v := .int .i64 (firstP c s k m)) (fun w' => ∃ M' : List ((Int × Int) × Value), MemOk c s M' ∧ StX [] w0 w' (blk p10 [.map (some b)] 100 :: mapI b encSp M' :: blk p3 [.slice a c.ops.length cap, kv, .slice an c.kinds.length cn] 26 :: blk p4 [.string s.name, .slice ax s.steps.length cps] 29 :: blk p11 [.func (.func 44) #[] ([.pointer (some ⟨p10, 0, none⟩), .pointer (some ⟨p3, 0, none⟩), .pointer (some ⟨p4, 0, none⟩), .pointer (some ⟨p12, 0, none⟩)] : List Value).toArray] 101 :: blk p12 [.func (.func 43) #[] ([.pointer (some ⟨p4, 0, none⟩), .pointer (some ⟨p11, 0, none⟩)] : List Value).toArray] 102 :: blk b13 [.int .i64 y.kind, .int .i64 y.subj, .int .i64 y.after, .int .i64 y.least, .int .i64 y.most] 89 :: L)) ⟨M, hM, front1 (R := [blk p10 [.map (some b)] 100, mapI b encSp M, blk p3 [.slice a c.ops.length cap, kv, .slice an c.kinds.length cn] 26, blk p4 [.string s.name, .slice ax s.steps.length cps] 29, blk p11 [.func (.func 44) #[] ([.pointer (some ⟨p10, 0, none⟩), .pointer (some ⟨p3, 0, none⟩), .pointer (some ⟨p4, 0, none⟩), .pointer (some ⟨p12, 0, none⟩)] : List Value).toArray] 101, blk p12 [.func (.func 43) #[] ([.pointer (some ⟨p4, 0, none⟩), .pointer (some ⟨p11, 0, none⟩)] : List Value).toArray] 102]) hS⟩ rfl rfl g56 (fun g => (g57.1 g)) Try.call43 (fun g => (.cons (g58.1 g) (.cons (g59.1 g) .nil))) (fun g => HF k (by have h1 := of_decide_eq_false g.2; have h2 := hsy.after; omega) (by omega) m M _ _ (accK_never g.1) hM (front1 (R := [blk p10 [.map (some b)] 100, mapI b encSp M, blk p3 [.slice a c.ops.length cap, kv, .slice an c.kinds.length cn] 26, blk p4 [.string s.name, .slice ax s.steps.length cps] 29, blk p11 [.func (.func 44) #[] ([.pointer (some ⟨p10, 0, none⟩), .pointer (some ⟨p3, 0, none⟩), .pointer (some ⟨p4, 0, none⟩), .pointer (some ⟨p12, 0, none⟩)] : List Value).toArray] 101, blk p12 [.func (.func 43) #[] ([.pointer (some ⟨p4, 0, none⟩), .pointer (some ⟨p11, 0, none⟩)] : List Value).toArray] 102]) hS)) ?_; clear hS; rintro v60 w ⟨M', hM', hS⟩ g60
      refine sgg rfl rfl g56 (fun g => (yGeq (g60.1 g) rfl)) (fun v61 g61 => ?_)
      refine sg rfl rfl rfl (fun g => (yOr (g56.1 g) rfl (fun hB => (g61.1 ⟨g, hB⟩)))) (fun v62 g62 => ?_)
      refine sv (yAnd rfl (fun hB => (g62.1 hB)) rfl) ?_
      refine sv (yAsg rfl) ?_
      refine nil ?_
      show Code.wp _ _ _ _ _
      refine region ?_
      refine sv (yAdd h45 rfl ⟨by omega, by omega⟩) ?_
      refine sv (yMove rfl) ?_
      refine nil ?_
      exact ⟨_, _, rfl, ⟨k + 1, M', h0, h1, h2, h5, rfl.trans (congrArg Value.bool (accK_succ hyk).symm), h43, h44, rfl, (hS.sub (.cons_cons _ (.cons_cons _ (.cons_cons _ (.cons_cons _ (.cons_cons _ (.cons_cons _ (.cons _ (List.Sublist.refl _))))))))) , (hM'), (by omega), rfl⟩, by omega⟩
    ·
      simp only [Bool.and_eq_true, Bool.or_eq_true, Bool.and_eq_false_iff, Bool.or_eq_false_iff, decide_eq_true_eq, decide_eq_false_iff_not, Bool.not_eq_true, Bool.not_eq_false, Bool.not_not, Bool.not_eq_eq_eq_not, Bool.not_true, Bool.not_false, Bool.false_eq_true, Bool.true_eq_false, ne_eq, Decidable.not_not, not_false_eq_true, not_true_eq_false] at c46
      refine exit ?_
      show Code.wp _ _ _ _ _
      refine seq ?_
      refine region ?_
      refine sv (yLdB h2 Try.isAgg100 (hS.at _) rfl) ?_
      refine sv (yMove h0) ?_
      refine sv (yMove h1) ?_
      refine sv (yBuild Try.zeroValue105 rfl pl105 (.cons rfl rfl (.cons rfl rfl .nil)) rfl) ?_
      refine sv (yMove h11) ?_
      obtain rfl : k = s.steps.length := by omega
      refine smapset2 encSp (k := ((st : Int), m)) (v := .bool (accK c s st m s.steps.length)) hS rfl rfl rfl Try.runUnderlying100 keySp ?_; clear hS; intro w hS
      refine nil ?_
      show Code.wp _ _ _ _ _
      refine seq ?_
      refine region ?_
      refine sv (yMove h11) ?_
      refine sv (yAsg rfl) ?_
      refine nil ?_
      show Code.wp _ _ _ _ _
      refine wp_ret ?_
      refine retQ (res1 rfl rfl) ?_
      have hfl := accK_full hok.steps hlt m
      exact ⟨by (rw [← hfl]; try rfl), _, hM.set hfl, hS⟩
end Go.Proofs.Ytghgnofilbnbaaa
/- part C12 -/
namespace Go.Proofs.Ytghgnofilbnbaaa
open Go Bx
theorem all_can {c : Crew} {s : Scr} {a an ax : Option Addr} {cap cn cps p3 p4 p10 p11 p12 b : Nat} {kv : Value} {w0 : World} (h : RCrew w0 [.slice a c.ops.length cap, kv, .slice an c.kinds.length cn] c) (hst : Sl w0 5 RStp (.slice ax s.steps.length cps) s.steps) (hok : ScrOk c s)  : ∀ (d st : Nat), st < s.steps.length → s.steps.length - st ≤ d → (∀ (m : Int) (M : List ((Int × Int) × Value)) (L : List Bx.Item) (w : World), 0 ≤ m ∧ m ≤ 100240 → MemOk c s M → StX [] w0 w ([blk p10 [.map (some b)] 100, mapI b encSp M, blk p3 [.slice a c.ops.length cap, kv, .slice an c.kinds.length cn] 26, blk p4 [.string s.name, .slice ax s.steps.length cps] 29, blk p11 [.func (.func 44) #[] ([.pointer (some ⟨p10, 0, none⟩), .pointer (some ⟨p3, 0, none⟩), .pointer (some ⟨p4, 0, none⟩), .pointer (some ⟨p12, 0, none⟩)] : List Value).toArray] 101, blk p12 [.func (.func 43) #[] ([.pointer (some ⟨p4, 0, none⟩), .pointer (some ⟨p11, 0, none⟩)] : List Value).toArray] 102] ++ L) → CE Try.prog 44 (([.int .i64 (st : Int), .int .i64 m] : List Value) ++ ([.pointer (some ⟨p10, 0, none⟩), .pointer (some ⟨p3, 0, none⟩), .pointer (some ⟨p4, 0, none⟩), .pointer (some ⟨p12, 0, none⟩)] : List Value)).toArray w (fun u w' => u = .bool (canS c s st m) ∧ ∃ M' : List ((Int × Int) × Value), MemOk c s M' ∧ StX [] w0 w' ([blk p10 [.map (some b)] 100, mapI b encSp M', blk p3 [.slice a c.ops.length cap, kv, .slice an c.kinds.length cn] 26, blk p4 [.string s.name, .slice ax s.steps.length cps] 29, blk p11 [.func (.func 44) #[] ([.pointer (some ⟨p10, 0, none⟩), .pointer (some ⟨p3, 0, none⟩), .pointer (some ⟨p4, 0, none⟩), .pointer (some ⟨p12, 0, none⟩)] : List Value).toArray] 101, blk p12 [.func (.func 43) #[] ([.pointer (some ⟨p4, 0, none⟩), .pointer (some ⟨p11, 0, none⟩)] : List Value).toArray] 102] ++ L))) := by
  intro d
  induction d using Nat.strongRecOn with
  | _ D ih =>
    intro st hlt hd m M L w hm hM hS
    refine c_can h hst hok hlt (fun k hk hkn m' M' L' w' hm' hM' hS' => ?_) hm hM hS
    exact c_first h hst hok hkn (ih (D - 1) (by omega) k hkn (by omega)) hm' hM' hS'
theorem all_first {c : Crew} {s : Scr} {a an ax : Option Addr} {cap cn cps p3 p4 p10 p11 p12 b : Nat} {kv : Value} {w0 : World} (h : RCrew w0 [.slice a c.ops.length cap, kv, .slice an c.kinds.length cn] c) (hst : Sl w0 5 RStp (.slice ax s.steps.length cps) s.steps) (hok : ScrOk c s)  {st : Nat} (hlt : st < s.steps.length) : (∀ (m : Int) (M : List ((Int × Int) × Value)) (L : List Bx.Item) (w : World), 0 ≤ m ∧ m ≤ 100000 → MemOk c s M → StX [] w0 w ([blk p10 [.map (some b)] 100, mapI b encSp M, blk p3 [.slice a c.ops.length cap, kv, .slice an c.kinds.length cn] 26, blk p4 [.string s.name, .slice ax s.steps.length cps] 29, blk p11 [.func (.func 44) #[] ([.pointer (some ⟨p10, 0, none⟩), .pointer (some ⟨p3, 0, none⟩), .pointer (some ⟨p4, 0, none⟩), .pointer (some ⟨p12, 0, none⟩)] : List Value).toArray] 101, blk p12 [.func (.func 43) #[] ([.pointer (some ⟨p4, 0, none⟩), .pointer (some ⟨p11, 0, none⟩)] : List Value).toArray] 102] ++ L) → CE Try.prog 43 (([.int .i64 (st : Int), .int .i64 m] : List Value) ++ ([.pointer (some ⟨p4, 0, none⟩), .pointer (some ⟨p11, 0, none⟩)] : List Value)).toArray w (fun u w' => u = .int .i64 (firstP c s st m) ∧ ∃ M' : List ((Int × Int) × Value), MemOk c s M' ∧ StX [] w0 w' ([blk p10 [.map (some b)] 100, mapI b encSp M', blk p3 [.slice a c.ops.length cap, kv, .slice an c.kinds.length cn] 26, blk p4 [.string s.name, .slice ax s.steps.length cps] 29, blk p11 [.func (.func 44) #[] ([.pointer (some ⟨p10, 0, none⟩), .pointer (some ⟨p3, 0, none⟩), .pointer (some ⟨p4, 0, none⟩), .pointer (some ⟨p12, 0, none⟩)] : List Value).toArray] 101, blk p12 [.func (.func 43) #[] ([.pointer (some ⟨p4, 0, none⟩), .pointer (some ⟨p11, 0, none⟩)] : List Value).toArray] 102] ++ L))) :=
  fun m M L w hm hM hS => c_first h hst hok hlt (all_can h hst hok _ st hlt (Nat.le_refl _)) hm hM hS
theorem permP {α : Type} {a b c d e f : α} {L : List α} : (a :: b :: c :: d :: e :: f :: L).Perm (c :: d :: f :: e :: b :: a :: L) :=
  (List.perm_append_comm_assoc [a, b] [c, d, e, f] L).trans (.cons _ (.cons _ ((List.Perm.swap _ _ _).trans (.cons _ (.cons _ (.swap _ _ _))))))
theorem befP_yes {start : Int} {l : List Int} {x : Stp} (h : 0 ≤ x.after) : Value.int .i64 (l.getD (x.after.toNat * 1) 0) = .int .i64 (befP start l x) := by unfold befP; rw [if_pos h, Nat.mul_one]
theorem befP_no {start : Int} {l : List Int} {x : Stp} (h : ¬ 0 ≤ x.after) : Value.int .i64 start = .int .i64 (befP start l x) := by unfold befP; rw [if_neg h]
end Go.Proofs.Ytghgnofilbnbaaa
/- part Ck23 -/
namespace Go.Proofs.Ytghgnofilbnbaaa
open Go Bx
set_option maxHeartbeats 4000000 in
/-- barrage/crew.Plan -/
theorem c_Plan {c : Crew} {cs ss : List Value} {s : Scr} {w0 : World} (h : RCrew w0 cs c) (hs : RScr w0 ss s) {start : Int} : CE Try.prog 15 #[.agg cs.toArray, .agg ss.toArray, .int .i64 start] w0 (fun u w' => ∃ lv, u = .tuple #[lv, .int .i64 (planE c s start)] ∧ St w0 w' [rowI lv 3 1 (planL c s start).length ((planL c s start).flatMap Bx.encI)]) := by
  obtain ⟨ov, kv, nv, rfl, hso, hsk, hsn, hrm⟩ := id h
  obtain ⟨a, cap, rfl, hcap, hmx, hel⟩ := id hso
  obtain ⟨ak, ck, rfl, hkcap, hkmx, -⟩ := id hsk
  obtain ⟨an, cn, rfl, hncap, hnmx, -⟩ := id hsn
  obtain ⟨sv, rfl, hsz, hst⟩ := id hs
  obtain ⟨ax, cps, rfl, hscap, hsmx, hels⟩ := id hst
  refine enter Try.func15 rfl Try.ntmps15 rfl ?_
  have hS := St.start w0
  refine seq ?_
  refine region ?_
  refine sbox hS rfl rfl ?_; clear hS; intro b3 w hS
  refine sbox hS rfl rfl ?_; clear hS; intro b4 w hS
  refine sv (yAsg rfl) ?_
  refine sv (yAsg rfl) ?_
  refine nil ?_
  show Code.wp _ _ _ _ _
  refine seq ?_
  refine seq ?_
  refine region ?_
  refine sv (yLdBA rfl Try.isAgg26 Try.sizeOf26 (hS.at _) rfl rfl) ?_
  refine sv (yLdBA rfl Try.isAgg29 Try.sizeOf29 (hS.at _) rfl rfl) ?_
  refine scall Try.call23 (.cons rfl (.cons rfl .nil)) (c_CheckScript (h.ext hS.ext) (hs.ext hS.ext)) ?_
  rintro _ w ⟨rfl, hE⟩; replace hS := hS.step hE; clear hE
  refine sv (yMove rfl) ?_
  refine sv (yExt rfl rfl) ?_
  refine sv (yExt rfl rfl) ?_
  refine sv (yAsg rfl) ?_
  refine sv (yAsg rfl) ?_
  refine nil ?_
  show Code.wp _ _ _ _ _
  refine seq ?_
  refine region ?_
  refine sv (yMove rfl) ?_
  refine sv (yNeq rfl rfl) ?_
  refine nil ?_
  show Code.wp _ _ _ _ _
  refine cond rfl (fun c25 => ?_) (fun c25 => ?_)
  ·
    simp only [Bool.and_eq_true, Bool.or_eq_true, Bool.and_eq_false_iff, Bool.or_eq_false_iff, decide_eq_true_eq, decide_eq_false_iff_not, Bool.not_eq_true, Bool.not_eq_false, Bool.not_not, Bool.not_eq_eq_eq_not, Bool.not_true, Bool.not_false, Bool.false_eq_true, Bool.true_eq_false, ne_eq, Decidable.not_not, not_false_eq_true, not_true_eq_false] at c25
    refine seq ?_
    refine region ?_
    refine sv (yMove rfl) ?_
    refine sv (yAsg rfl) ?_
    refine sv (yAsg rfl) ?_
    refine nil ?_
    show Code.wp _ _ _ _ _
    refine wp_ret (thenR ?_)
    refine retQ (res2 rfl rfl rfl) ?_
    exact ⟨_, by (rw [(planE_bad c25).1]; try rfl), by rw [(planE_bad c25).2]; exact (hS.nilrow 3 1).sub (.cons_cons _ (List.nil_sublist _))⟩
  ·
    simp only [Bool.and_eq_true, Bool.or_eq_true, Bool.and_eq_false_iff, Bool.or_eq_false_iff, decide_eq_true_eq, decide_eq_false_iff_not, Bool.not_eq_true, Bool.not_eq_false, Bool.not_not, Bool.not_eq_eq_eq_not, Bool.not_true, Bool.not_false, Bool.false_eq_true, Bool.true_eq_false, ne_eq, Decidable.not_not, not_false_eq_true, not_true_eq_false] at c25
    have hok := scrOk_of c25
    have hlen := hok.len
    refine skip ?_
    show Code.wp _ _ _ _ _
    refine seq ?_
    refine seq ?_
    refine region ?_
    refine sv (yMove rfl) ?_
    refine scall Try.call42 (.cons rfl .nil) c_never ?_
    rintro _ w ⟨rfl, hE⟩; replace hS := hS.step hE; clear hE
    refine nil ?_
    show Code.wp _ _ _ _ _
    refine cond rfl (fun c28 => ?_) (fun c28 => ?_)
    ·
      refine seq ?_
      refine region ?_
      refine sv (yAsg rfl) ?_
      refine sv (yAsg rfl) ?_
      refine nil ?_
      show Code.wp _ _ _ _ _
      refine wp_ret (thenR ?_)
      refine retQ (res2 rfl rfl rfl) ?_
      exact ⟨_, by (rw [(planE_never c25 c28).1]; try rfl), by rw [(planE_never c25 c28).2]; exact (hS.nilrow 3 1).sub (.cons_cons _ (List.nil_sublist _))⟩
    ·
      refine skip ?_
      show Code.wp _ _ _ _ _
      refine seq ?_
      refine region ?_
      refine smkmap encSp hS ?_; clear hS; intro b29 w hS
      refine salloc hS Try.zeroValue100 rfl ?_; clear hS; intro b10 w hS
      refine sst hS rfl rfl Try.sizeOf100 rfl rfl rfl rfl ?_; clear hS; intro w hS
      refine nil ?_
      show Code.wp _ _ _ _ _
      refine seq ?_
      refine region ?_
      refine salloc hS Try.zeroValue101 rfl ?_; clear hS; intro b11 w hS
      refine nil ?_
      show Code.wp _ _ _ _ _
      refine seq ?_
      refine region ?_
      refine sv (yFn (.cons rfl (.cons rfl .nil))) ?_
      refine salloc hS Try.zeroValue102 rfl ?_; clear hS; intro b12 w hS
      refine sst hS rfl rfl Try.sizeOf102 rfl rfl rfl rfl ?_; clear hS; intro w hS
      refine nil ?_
      show Code.wp _ _ _ _ _
      refine seq ?_
      refine region ?_
      refine sv (yFn (.cons rfl (.cons rfl (.cons rfl (.cons rfl .nil))))) ?_
      refine sst hS rfl rfl Try.sizeOf101 rfl rfl rfl rfl ?_; clear hS; intro w hS
      refine nil ?_
      show Code.wp _ _ _ _ _
      refine seq ?_
      refine region ?_
      replace hS := hS.perm permP
      replace hS : StX [] w0 w (blk b10 [.map (some b29)] 100 :: mapI b29 encSp [] :: blk b3 [.slice a c.ops.length cap, .slice ak c.keys.length ck, .slice an c.kinds.length cn] 26 :: blk b4 [.string s.name, .slice ax s.steps.length cps] 29 :: blk b11 [.func (.func 44) #[] ([.pointer (some ⟨b10, 0, none⟩), .pointer (some ⟨b3, 0, none⟩), .pointer (some ⟨b4, 0, none⟩), .pointer (some ⟨b12, 0, none⟩)] : List Value).toArray] 101 :: blk b12 [.func (.func 43) #[] ([.pointer (some ⟨b4, 0, none⟩), .pointer (some ⟨b11, 0, none⟩)] : List Value).toArray] 102 :: []) := hS
      replace hS := hS.nilrow 3 1
      have hnv := outB_false.1 c28
      refine sv (yAsg rfl) ?_
      refine nil ?_
      show Code.wp _ _ _ _ _
      refine seq ?_
      refine seq ?_
      refine region ?_
      refine sv (fa29_1 rfl) ?_
      refine sv (yLdB rfl Try.isAgg27 (hS.at _) rfl) ?_
      refine sv (yLen rfl Try.underlying27) ?_
      refine sv (yMove rfl) ?_
      refine nil ?_
      show Code.wp _ _ _ _ _
      refine block ?_
      refine loop (fun f w zz => ∃ (k : Nat) (l : List Int) (lv : Value) (M : List ((Int × Int) × Value)), f 2 = .int .i64 start ∧ f 12 = .pointer (some ⟨b12, 0, none⟩) ∧ f 13 = lv ∧ f 33 = .slice ax s.steps.length cps ∧ f 34 = .int .i64 (s.steps.length : Int) ∧ f 35 = .int .i64 (k : Int) ∧ StX [] w0 w [rowI lv 3 1 l.length (l.flatMap Bx.encI), blk b10 [.map (some b29)] 100, mapI b29 encSp M, blk b3 [.slice a c.ops.length cap, .slice ak c.keys.length ck, .slice an c.kinds.length cn] 26, blk b4 [.string s.name, .slice ax s.steps.length cps] 29, blk b11 [.func (.func 44) #[] ([.pointer (some ⟨b10, 0, none⟩), .pointer (some ⟨b3, 0, none⟩), .pointer (some ⟨b4, 0, none⟩), .pointer (some ⟨b12, 0, none⟩)] : List Value).toArray] 101, blk b12 [.func (.func 43) #[] ([.pointer (some ⟨b4, 0, none⟩), .pointer (some ⟨b11, 0, none⟩)] : List Value).toArray] 102] ∧ (k ≤ s.steps.length) ∧ (l.length = k) ∧ (MemOk c s M) ∧ (∀ y ∈ l, 0 ≤ y ∧ y ≤ 100000) ∧ (planR c s start s.steps 0 [] = planR c s start (s.steps.drop k) k l) ∧ zz = s.steps.length - k) _ ⟨_, rfl, 0, [], _, [], rfl, rfl, rfl, rfl, rfl, rfl, hS, (Nat.zero_le _), (rfl), (MemOk.nil c s), (fun y hy => (List.not_mem_nil hy).elim), (rfl), rfl⟩ ?_
      clear hS
      rintro f w _ ⟨k, l, lv, M, h2, h12, h13, h33, h34, h35, hS, hk, hl, hM, hbd, hP, rfl⟩
      refine seq ?_
      refine region ?_
      refine sv (yLss h35 h34) ?_
      refine nil ?_
      show Code.wp _ _ _ _ _
      refine seq ?_
      refine cond rfl (fun c36 => ?_) (fun c36 => ?_)
      ·
        simp only [Bool.and_eq_true, Bool.or_eq_true, Bool.and_eq_false_iff, Bool.or_eq_false_iff, decide_eq_true_eq, decide_eq_false_iff_not, Bool.not_eq_true, Bool.not_eq_false, Bool.not_not, Bool.not_eq_eq_eq_not, Bool.not_true, Bool.not_false, Bool.false_eq_true, Bool.true_eq_false, ne_eq, Decidable.not_not, not_false_eq_true, not_true_eq_false] at c36
        refine skip ?_
        show Code.wp _ _ _ _ _
        refine seq ?_
        refine block ?_
        refine seq ?_
        refine region ?_
        refine sv (yMove h35) ?_
        obtain ⟨y, hxv, hdv⟩ := drop_of (l := s.steps) (k := k) (by omega)
        obtain ⟨bv, ov, csv, hav, hlenv, hcsv, hRv⟩ := hels (k) (by omega)
        obtain rfl : y = s.steps[k] := (List.getElem?_eq_some_iff.1 hxv).2.symm
        generalize s.steps[k] = y at hxv hdv hRv
        obtain ⟨rfl, hyi⟩ := hRv
        have hsy := hok.steps k y hxv
        have hya := hsy.after
        refine sv (yIxa h33 hav h35 Try.runUnderlying27 Try.sizeOf89 (by omega) (by omega)) ?_
        refine sv (yLdA rfl Try.isAgg89 Try.sizeOf89 (hcsv.ext hS.ext) rfl) ?_
        refine salloc hS Try.zeroValue89 rfl ?_; clear hS; intro b15 w hS
        refine sv (yAsg rfl) ?_
        refine sst hS rfl rfl Try.sizeOf89 rfl rfl rfl rfl ?_; clear hS; intro w hS
        refine nil ?_
        show Code.wp _ _ _ _ _
        refine seq ?_
        refine region ?_
        replace hS : StX [] w0 w (blk b15 [.int .i64 y.kind, .int .i64 y.subj, .int .i64 y.after, .int .i64 y.least, .int .i64 y.most] 89 :: rowI lv 3 1 l.length (l.flatMap Bx.encI) :: blk b10 [.map (some b29)] 100 :: mapI b29 encSp M :: blk b3 [.slice a c.ops.length cap, .slice ak c.keys.length ck, .slice an c.kinds.length cn] 26 :: blk b4 [.string s.name, .slice ax s.steps.length cps] 29 :: blk b11 [.func (.func 44) #[] ([.pointer (some ⟨b10, 0, none⟩), .pointer (some ⟨b3, 0, none⟩), .pointer (some ⟨b4, 0, none⟩), .pointer (some ⟨b12, 0, none⟩)] : List Value).toArray] 101 :: blk b12 [.func (.func 43) #[] ([.pointer (some ⟨b4, 0, none⟩), .pointer (some ⟨b11, 0, none⟩)] : List Value).toArray] 102 :: []) := hS
        refine sv (yMove h2) ?_
        refine sv (yAsg rfl) ?_
        refine nil ?_
        show Code.wp _ _ _ _ _
        refine seqJ (n := 61) (fun f w => f 2 = .int .i64 start ∧ f 12 = .pointer (some ⟨b12, 0, none⟩) ∧ f 13 = lv ∧ f 14 = .int .i64 (k : Int) ∧ f 16 = .int .i64 (befP start l y) ∧ f 33 = .slice ax s.steps.length cps ∧ f 34 = .int .i64 (s.steps.length : Int) ∧ f 35 = .int .i64 (k : Int) ∧ StX [] w0 w [blk b15 [.int .i64 y.kind, .int .i64 y.subj, .int .i64 y.after, .int .i64 y.least, .int .i64 y.most] 89, rowI lv 3 1 l.length (l.flatMap Bx.encI), blk b10 [.map (some b29)] 100, mapI b29 encSp M, blk b3 [.slice a c.ops.length cap, .slice ak c.keys.length ck, .slice an c.kinds.length cn] 26, blk b4 [.string s.name, .slice ax s.steps.length cps] 29, blk b11 [.func (.func 44) #[] ([.pointer (some ⟨b10, 0, none⟩), .pointer (some ⟨b3, 0, none⟩), .pointer (some ⟨b4, 0, none⟩), .pointer (some ⟨b12, 0, none⟩)] : List Value).toArray] 101, blk b12 [.func (.func 43) #[] ([.pointer (some ⟨b4, 0, none⟩), .pointer (some ⟨b11, 0, none⟩)] : List Value).toArray] 102] ∧ True) ?_ ?_
        ·
          refine seq ?_
          refine region ?_
          refine sv (fa89_2 rfl) ?_
          refine sv (yLdB rfl Try.isAgg3 (hS.at _) rfl) ?_
          refine sv (yGeq rfl rfl) ?_
          refine nil ?_
          show Code.wp _ _ _ _ _
          refine cond rfl (fun c43 => ?_) (fun c43 => ?_)
          ·
            simp only [Bool.and_eq_true, Bool.or_eq_true, Bool.and_eq_false_iff, Bool.or_eq_false_iff, decide_eq_true_eq, decide_eq_false_iff_not, Bool.not_eq_true, Bool.not_eq_false, Bool.not_not, Bool.not_eq_eq_eq_not, Bool.not_true, Bool.not_false, Bool.false_eq_true, Bool.true_eq_false, ne_eq, Decidable.not_not, not_false_eq_true, not_true_eq_false] at c43
            refine region ?_
            refine sv (yMove h13) ?_
            refine sv (fa89_2 rfl) ?_
            refine sv (yLdB rfl Try.isAgg3 (hS.at _) rfl) ?_
            obtain ⟨g, chl, rfl, -⟩ := row_some (hS.row lv) (by omega)
            refine sv (yIx rfl rfl Try.runUnderlying30 Try.sizeOf3 (by omega) (by omega)) ?_
            refine sv (yLd rfl Try.isAgg3 ((row_at (hS.row (.slice (some ⟨g, 0, none⟩) l.length chl)) rfl (by omega)).at (j := y.after.toNat * 1) (flatI_get (by omega)))) ?_
            refine sv (yAsg rfl) ?_
            refine nil ?_
            exact ⟨_, rfl, h2, h12, h13, rfl, rfl.trans (befP_yes c43), h33, h34, h35, hS, trivial⟩
          ·
            simp only [Bool.and_eq_true, Bool.or_eq_true, Bool.and_eq_false_iff, Bool.or_eq_false_iff, decide_eq_true_eq, decide_eq_false_iff_not, Bool.not_eq_true, Bool.not_eq_false, Bool.not_not, Bool.not_eq_eq_eq_not, Bool.not_true, Bool.not_false, Bool.false_eq_true, Bool.true_eq_false, ne_eq, Decidable.not_not, not_false_eq_true, not_true_eq_false] at c43
            refine skip ?_
            exact ⟨_, rfl, h2, h12, h13, rfl, rfl.trans (befP_no c43), h33, h34, h35, hS, trivial⟩
        ·
          clear hS; rintro f w ⟨h2, h12, h13, h14, h16, h33, h34, h35, hS, -⟩
          refine seq ?_
          refine region ?_
          refine sv (yLdB h12 Try.isAgg102 (hS.at _) rfl) ?_
          refine sv (yMove h14) ?_
          refine sv (yMove h16) ?_
          refine scallf rfl Try.call43 (.cons rfl (.cons rfl .nil)) (all_first h hst hok (show k < s.steps.length by omega) (befP start l y) M _ _ (befP_bd hnv hbd) hM (front2 (R := [blk b10 [.map (some b29)] 100, mapI b29 encSp M, blk b3 [.slice a c.ops.length cap, .slice ak c.keys.length ck, .slice an c.kinds.length cn] 26, blk b4 [.string s.name, .slice ax s.steps.length cps] 29, blk b11 [.func (.func 44) #[] ([.pointer (some ⟨b10, 0, none⟩), .pointer (some ⟨b3, 0, none⟩), .pointer (some ⟨b4, 0, none⟩), .pointer (some ⟨b12, 0, none⟩)] : List Value).toArray] 101, blk b12 [.func (.func 43) #[] ([.pointer (some ⟨b4, 0, none⟩), .pointer (some ⟨b11, 0, none⟩)] : List Value).toArray] 102]) hS)) ?_
          rintro _ w ⟨rfl, M', hM', hS2⟩; clear hS; have hS : StX [] w0 w (blk b15 [.int .i64 y.kind, .int .i64 y.subj, .int .i64 y.after, .int .i64 y.least, .int .i64 y.most] 89 :: rowI lv 3 1 l.length (l.flatMap Bx.encI) :: blk b10 [.map (some b29)] 100 :: mapI b29 encSp M' :: blk b3 [.slice a c.ops.length cap, .slice ak c.keys.length ck, .slice an c.kinds.length cn] 26 :: blk b4 [.string s.name, .slice ax s.steps.length cps] 29 :: blk b11 [.func (.func 44) #[] ([.pointer (some ⟨b10, 0, none⟩), .pointer (some ⟨b3, 0, none⟩), .pointer (some ⟨b4, 0, none⟩), .pointer (some ⟨b12, 0, none⟩)] : List Value).toArray] 101 :: blk b12 [.func (.func 43) #[] ([.pointer (some ⟨b4, 0, none⟩), .pointer (some ⟨b11, 0, none⟩)] : List Value).toArray] 102 :: []) := unfront2 hS2; clear hS2
          refine sv (yAsg rfl) ?_
          refine nil ?_
          show Code.wp _ _ _ _ _
          refine seq ?_
          refine seq ?_
          refine region ?_
          refine sv (yMove rfl) ?_
          refine sv (yLss rfl rfl) ?_
          refine nil ?_
          show Code.wp _ _ _ _ _
          refine cond rfl (fun c54 => ?_) (fun c54 => ?_)
          ·
            simp only [Bool.and_eq_true, Bool.or_eq_true, Bool.and_eq_false_iff, Bool.or_eq_false_iff, decide_eq_true_eq, decide_eq_false_iff_not, Bool.not_eq_true, Bool.not_eq_false, Bool.not_not, Bool.not_eq_eq_eq_not, Bool.not_true, Bool.not_false, Bool.false_eq_true, Bool.true_eq_false, ne_eq, Decidable.not_not, not_false_eq_true, not_true_eq_false] at c54
            refine seq ?_
            refine region ?_
            refine sv (yAsg rfl) ?_
            refine sv (yAsg rfl) ?_
            refine nil ?_
            show Code.wp _ _ _ _ _
            refine wp_ret (thenR (blockR (thenR (thenR (blockR (thenR ?_))))))
            refine retQ (res2 rfl rfl rfl) ?_
            exact ⟨_, by (rw [(planE_none c25 c28 (by rw [hP, hdv, planR_cons, if_pos c54])).1]; try rfl), by rw [(planE_none c25 c28 (by rw [hP, hdv, planR_cons, if_pos c54])).2]; exact (hS.nilrow 3 1).sub (.cons_cons _ (List.nil_sublist _))⟩
          ·
            simp only [Bool.and_eq_true, Bool.or_eq_true, Bool.and_eq_false_iff, Bool.or_eq_false_iff, decide_eq_true_eq, decide_eq_false_iff_not, Bool.not_eq_true, Bool.not_eq_false, Bool.not_not, Bool.not_eq_eq_eq_not, Bool.not_true, Bool.not_false, Bool.false_eq_true, Bool.true_eq_false, ne_eq, Decidable.not_not, not_false_eq_true, not_true_eq_false] at c54
            refine skip ?_
            show Code.wp _ _ _ _ _
            refine region ?_
            refine sv (yMove h13) ?_
            refine sv (yMove rfl) ?_
            refine sbslice hS Try.underlying30 Try.sizeOf3 rfl Try.zeroValue3 rfl (.cons rfl rfl .nil) rfl ?_; clear hS; intro b57 w hS
            refine sapp (bytes := 8) (size := 1) (v := lv) (m := 1) hS rfl rfl Try.underlying30 ti3 rfl rfl rfl rfl (by decide) (blk_cells (hS.at _)) rfl rfl (by omega) (by omega) ?_; clear hS; intro v58 w hS
            refine sv (yAsg rfl) ?_
            refine nil ?_
            show Code.wp _ _ _ _ _
            refine region ?_
            refine sv (yAdd h35 rfl ⟨by omega, by omega⟩) ?_
            refine sv (yMove rfl) ?_
            refine nil ?_
            have hfb := firstP_bd hok.steps (show k < s.steps.length by omega) (b := befP start l y) c54
            exact ⟨_, _, rfl, ⟨k + 1, l ++ [firstP c s k (befP start l y)], v58, M', h2, h12, rfl, h33, h34, rfl, (by rw [List.flatMap_append, List.length_append]; exact hS.sub (.cons _ (.cons _ (List.Sublist.refl _)))), (by omega), (by simp [hl]), (hM'), (fun z hz => by rcases List.mem_append.1 hz with hz | hz; exact hbd z hz; rw [List.mem_singleton.1 hz]; exact hfb), (by rw [hP, hdv, planR_cons, if_neg c54]), rfl⟩, by omega⟩
      ·
        simp only [Bool.and_eq_true, Bool.or_eq_true, Bool.and_eq_false_iff, Bool.or_eq_false_iff, decide_eq_true_eq, decide_eq_false_iff_not, Bool.not_eq_true, Bool.not_eq_false, Bool.not_not, Bool.not_eq_eq_eq_not, Bool.not_true, Bool.not_false, Bool.false_eq_true, Bool.true_eq_false, ne_eq, Decidable.not_not, not_false_eq_true, not_true_eq_false] at c36
        refine exit ?_
        show Code.wp _ _ _ _ _
        refine seq ?_
        refine region ?_
        refine sv (yMove h13) ?_
        refine sv (yAsg rfl) ?_
        refine sv (yAsg rfl) ?_
        refine nil ?_
        show Code.wp _ _ _ _ _
        refine wp_ret ?_
        refine retQ (res2 rfl rfl rfl) ?_
        obtain rfl : k = s.steps.length := by omega
        have hfin := planE_some c25 c28 (l := l) (by rw [hP, List.drop_length]; rfl)
        exact ⟨lv, by (rw [hfin.1]; try rfl), by rw [hfin.2]; exact hS.sub (.cons_cons _ (List.nil_sublist _))⟩
end Go.Proofs.Ytghgnofilbnbaaa
/- part C13 -/
namespace Bx
open Go Go.RowKit
def exO1 : Opr := ⟨⟨#[97, 110, 110]⟩, 5, [⟨0, 600⟩]⟩
def exO2 : Opr := ⟨⟨#[98, 111, 98]⟩, 3, [⟨0, 300⟩, ⟨400, 600⟩]⟩
def exO3 : Opr := ⟨⟨#[101, 118, 101]⟩, 4, [⟨200, 600⟩]⟩
def exK1 : Knd := ⟨⟨#[108, 111, 111, 107]⟩, 1, 0, 0, [], false⟩
def exK2 : Knd := ⟨⟨#[99, 108, 111, 115, 101]⟩, 4, 3, 10, [0, 1], true⟩
def exC : Crew := ⟨[exO1, exO2, exO3], [⟨#[114, 101, 100]⟩, ⟨#[98, 108, 117, 101]⟩], [exK1, exK2]⟩
def exA : List Acn := [⟨10, 0, 1, 0, 0, 0⟩, ⟨11, 1, 1, 1, 0, 0⟩, ⟨12, 0, 4, 1, 0, 7⟩, ⟨13, 0, 5, 2, 0, 0⟩, ⟨22, 1, 5, 2, 0, 0⟩, ⟨22, 1, 5, 2, 0, 0⟩, ⟨23, 1, 4, 1, 0, 8⟩, ⟨20, 0, 4, 0, 0, 0⟩, ⟨310, 0, 1, 1, 0, 0⟩]
def exS : Scr := ⟨⟨#[100, 114, 105, 108, 108]⟩, [⟨1, 7, -1, 0, 30⟩, ⟨0, 1, 0, 5, 20⟩, ⟨1, 9, 1, 60, 90⟩]⟩
theorem ex_play : playE exC exA = 0 ∧ playL exC exA = [0, 0, 0, 204, 0, 206, 203, 200, 0] := by decide +kernel
theorem ex_plan : planE exC exS 500 = 0 ∧ planL exC exS 500 = [500, 505, 565] := by decide +kernel
theorem ex_down : planE exC exS 560 = 9 := by decide +kernel
end Bx
/- part Ck24 -/
namespace Go.Proofs.Ytghgnofilbnbaaa
open Go Bx
/-- barrage/barrageref02.Ints -/
theorem c_Ints {la lb : List Int} {va vb : Value} {w0 : World} (ha : Sl w0 1 RInt va la) (hb : Sl w0 1 RInt vb lb) : CV Try.prog 17 #[va, vb] w0 (.bool (decide (la = lb))) := by
  obtain ⟨aa, ca, rfl, hca, hma, hela⟩ := ha
  obtain ⟨ab, cb, rfl, hcb, hmb, helb⟩ := hb
  refine enter Try.func17 rfl Try.ntmps17 rfl ?_
  have hS := St.start w0
  refine seq ?_
  refine region ?_
  refine sv (yAsg rfl) ?_
  refine nil ?_
  show Code.wp _ _ _ _ _
  refine seq ?_
  refine seq ?_
  refine region ?_
  refine sv (yMove rfl) ?_
  refine sv (yLen rfl Try.underlying30) ?_
  refine sv (yMove rfl) ?_
  refine sv (yLen rfl Try.underlying30) ?_
  refine sv (yNeq rfl rfl) ?_
  refine nil ?_
  show Code.wp _ _ _ _ _
  refine cond rfl (fun c10 => ?_) (fun c10 => ?_)
  ·
    simp only [Bool.and_eq_true, Bool.or_eq_true, Bool.and_eq_false_iff, Bool.or_eq_false_iff, decide_eq_true_eq, decide_eq_false_iff_not, Bool.not_eq_true, Bool.not_eq_false, Bool.not_not, Bool.not_eq_eq_eq_not, Bool.not_true, Bool.not_false, Bool.false_eq_true, Bool.true_eq_false, ne_eq, Decidable.not_not, not_false_eq_true, not_true_eq_false] at c10
    refine seq ?_
    refine region ?_
    refine sv (yAsg rfl) ?_
    refine nil ?_
    show Code.wp _ _ _ _ _
    refine wp_ret (thenR ?_)
    exact retV (res1 rfl (eqB (by rw [decide_eq_false (fun h => by rw [h] at c10; exact c10 rfl)]))) hS.ext
  ·
    simp only [Bool.and_eq_true, Bool.or_eq_true, Bool.and_eq_false_iff, Bool.or_eq_false_iff, decide_eq_true_eq, decide_eq_false_iff_not, Bool.not_eq_true, Bool.not_eq_false, Bool.not_not, Bool.not_eq_eq_eq_not, Bool.not_true, Bool.not_false, Bool.false_eq_true, Bool.true_eq_false, ne_eq, Decidable.not_not, not_false_eq_true, not_true_eq_false] at c10
    refine skip ?_
    show Code.wp _ _ _ _ _
    refine seq ?_
    refine seq ?_
    refine region ?_
    refine sv (yAsg rfl) ?_
    refine nil ?_
    show Code.wp _ _ _ _ _
    refine block ?_
    refine loop (fun f w zz => ∃ (k : Nat), f 0 = .slice aa la.length ca ∧ f 1 = .slice ab lb.length cb ∧ f 5 = .int .i64 (k : Int) ∧ StX [] w0 w [] ∧ (k ≤ la.length) ∧ (∀ i, i < k → la[i]? = lb[i]?) ∧ zz = la.length - k) _ ⟨_, rfl, 0, rfl, rfl, rfl, hS, (Nat.zero_le _), (fun i hi => absurd hi (Nat.not_lt_zero i)), rfl⟩ ?_
    clear hS
    rintro f w _ ⟨k, h0, h1, h5, hS, hk, hI, rfl⟩
    refine seq ?_
    refine seq ?_
    refine region ?_
    refine sv (yMove h5) ?_
    refine sv (yMove h0) ?_
    refine sv (yLen rfl Try.underlying30) ?_
    refine sv (yLss rfl rfl) ?_
    refine nil ?_
    show Code.wp _ _ _ _ _
    refine cond rfl (fun c14 => ?_) (fun c14 => ?_)
    ·
      simp only [Bool.and_eq_true, Bool.or_eq_true, Bool.and_eq_false_iff, Bool.or_eq_false_iff, decide_eq_true_eq, decide_eq_false_iff_not, Bool.not_eq_true, Bool.not_eq_false, Bool.not_not, Bool.not_eq_eq_eq_not, Bool.not_true, Bool.not_false, Bool.false_eq_true, Bool.true_eq_false, ne_eq, Decidable.not_not, not_false_eq_true, not_true_eq_false] at c14
      obtain ⟨x, hx, hd⟩ := drop_of (l := la) (k := k) (by omega)
      obtain ⟨b, o, cs, ha, hlen, hcs, hR⟩ := hela (k) (by omega)
      obtain rfl : x = la[k] := (List.getElem?_eq_some_iff.1 hx).2.symm
      generalize la[k] = x at hx hd hR
      obtain ⟨rfl, _⟩ := hR
      obtain ⟨y, hxq, hdq⟩ := drop_of (l := lb) (k := k) (by omega)
      obtain ⟨bq, oq, csq, haq, hlenq, hcsq, hRq⟩ := helb (k) (by omega)
      obtain rfl : y = lb[k] := (List.getElem?_eq_some_iff.1 hxq).2.symm
      generalize lb[k] = y at hxq hdq hRq
      obtain ⟨rfl, _⟩ := hRq
      refine skip ?_
      show Code.wp _ _ _ _ _
      refine seq ?_
      refine block ?_
      refine seq ?_
      refine region_draw mixed (by kernel_rfl) hS ?_
      refine qv (fun w hS => (yMove h0)) ?_
      refine qv (fun w hS => (yMove h5)) ?_
      refine qv (fun w hS => (yIxa rfl ha rfl Try.runUnderlying30 Try.sizeOf3 (by omega) (by omega))) ?_
      refine qv (fun w hS => (yLd rfl Try.isAgg3 ((hcs.ext hS.ext).one))) ?_
      refine qv (fun w hS => (yMove h1)) ?_
      refine qv (fun w hS => (yMove h5)) ?_
      refine qv (fun w hS => (yIxa rfl haq rfl Try.runUnderlying30 Try.sizeOf3 (by omega) (by omega))) ?_
      refine qv (fun w hS => (yLd rfl Try.isAgg3 ((hcsq.ext hS.ext).one))) ?_
      refine qv (fun w hS => (yNeq rfl rfl)) ?_
      clear hS; refine qnil (fun w hS => ?_)
      show Code.wp _ _ _ _ _
      refine cond rfl (fun c25 => ?_) (fun c25 => ?_)
      ·
        simp only [Bool.and_eq_true, Bool.or_eq_true, Bool.and_eq_false_iff, Bool.or_eq_false_iff, decide_eq_true_eq, decide_eq_false_iff_not, Bool.not_eq_true, Bool.not_eq_false, Bool.not_not, Bool.not_eq_eq_eq_not, Bool.not_true, Bool.not_false, Bool.false_eq_true, Bool.true_eq_false, ne_eq, Decidable.not_not, not_false_eq_true, not_true_eq_false] at c25
        have hne : x ≠ y := fun h => by subst h; simp at c25
        refine seq ?_
        refine region ?_
        refine sv (yAsg rfl) ?_
        refine nil ?_
        show Code.wp _ _ _ _ _
        refine wp_ret (blockR (thenR (thenR (blockR (thenR ?_)))))
        exact retV (res1 rfl (eqB (by rw [decide_eq_false (ne_of_get hx hxq hne)]))) hS.ext
      ·
        simp only [Bool.and_eq_true, Bool.or_eq_true, Bool.and_eq_false_iff, Bool.or_eq_false_iff, decide_eq_true_eq, decide_eq_false_iff_not, Bool.not_eq_true, Bool.not_eq_false, Bool.not_not, Bool.not_eq_eq_eq_not, Bool.not_true, Bool.not_false, Bool.false_eq_true, Bool.true_eq_false, ne_eq, Decidable.not_not, not_false_eq_true, not_true_eq_false] at c25
        have hxy : x = y := c25
        refine skip ?_
        show Code.wp _ _ _ _ _
        refine region ?_
        refine sv (yMove h5) ?_
        refine sv (yAdd rfl rfl ⟨by omega, by omega⟩) ?_
        refine sv (yAsg rfl) ?_
        refine nil ?_
        exact ⟨_, _, rfl, ⟨k + 1, h0, h1, rfl, hS, (by omega), (snoc hI (by rw [hx, hxq, hxy])), rfl⟩, by omega⟩
    ·
      simp only [Bool.and_eq_true, Bool.or_eq_true, Bool.and_eq_false_iff, Bool.or_eq_false_iff, decide_eq_true_eq, decide_eq_false_iff_not, Bool.not_eq_true, Bool.not_eq_false, Bool.not_not, Bool.not_eq_eq_eq_not, Bool.not_true, Bool.not_false, Bool.false_eq_true, Bool.true_eq_false, ne_eq, Decidable.not_not, not_false_eq_true, not_true_eq_false] at c14
      refine exit ?_
      show Code.wp _ _ _ _ _
      refine seq ?_
      refine region ?_
      refine sv (yAsg rfl) ?_
      refine nil ?_
      show Code.wp _ _ _ _ _
      refine wp_ret ?_
      exact retV (res1 rfl (eqB (by rw [decide_eq_true (eq_of_get (by omega) (fun i hi => hI i (by omega)))]))) hS.ext
/-- barrage/barragelaw10.errors -/
theorem c_errors {la lb : List Int} {va vb : Value} {w0 : World} (ha : Sl w0 1 RInt va la) (hb : Sl w0 1 RInt vb lb) : CV Try.prog 21 #[va, vb] w0 (.bool (decide (la = lb))) := by
  obtain ⟨aa, ca, rfl, hca, hma, hela⟩ := ha
  obtain ⟨ab, cb, rfl, hcb, hmb, helb⟩ := hb
  refine enter Try.func21 rfl Try.ntmps21 rfl ?_
  have hS := St.start w0
  refine seq ?_
  refine region ?_
  refine sv (yAsg rfl) ?_
  refine nil ?_
  show Code.wp _ _ _ _ _
  refine seq ?_
  refine seq ?_
  refine region ?_
  refine sv (yMove rfl) ?_
  refine sv (yLen rfl Try.underlying49) ?_
  refine sv (yMove rfl) ?_
  refine sv (yLen rfl Try.underlying49) ?_
  refine sv (yNeq rfl rfl) ?_
  refine nil ?_
  show Code.wp _ _ _ _ _
  refine cond rfl (fun c10 => ?_) (fun c10 => ?_)
  ·
    simp only [Bool.and_eq_true, Bool.or_eq_true, Bool.and_eq_false_iff, Bool.or_eq_false_iff, decide_eq_true_eq, decide_eq_false_iff_not, Bool.not_eq_true, Bool.not_eq_false, Bool.not_not, Bool.not_eq_eq_eq_not, Bool.not_true, Bool.not_false, Bool.false_eq_true, Bool.true_eq_false, ne_eq, Decidable.not_not, not_false_eq_true, not_true_eq_false] at c10
    refine seq ?_
    refine region ?_
    refine sv (yAsg rfl) ?_
    refine nil ?_
    show Code.wp _ _ _ _ _
    refine wp_ret (thenR ?_)
    exact retV (res1 rfl (eqB (by rw [decide_eq_false (fun h => by rw [h] at c10; exact c10 rfl)]))) hS.ext
  ·
    simp only [Bool.and_eq_true, Bool.or_eq_true, Bool.and_eq_false_iff, Bool.or_eq_false_iff, decide_eq_true_eq, decide_eq_false_iff_not, Bool.not_eq_true, Bool.not_eq_false, Bool.not_not, Bool.not_eq_eq_eq_not, Bool.not_true, Bool.not_false, Bool.false_eq_true, Bool.true_eq_false, ne_eq, Decidable.not_not, not_false_eq_true, not_true_eq_false] at c10
    refine skip ?_
    show Code.wp _ _ _ _ _
    refine seq ?_
    refine seq ?_
    refine region ?_
    refine sv (yAsg rfl) ?_
    refine nil ?_
    show Code.wp _ _ _ _ _
    refine block ?_
    refine loop (fun f w zz => ∃ (k : Nat), f 0 = .slice aa la.length ca ∧ f 1 = .slice ab lb.length cb ∧ f 5 = .int .i64 (k : Int) ∧ StX [] w0 w [] ∧ (k ≤ la.length) ∧ (∀ i, i < k → la[i]? = lb[i]?) ∧ zz = la.length - k) _ ⟨_, rfl, 0, rfl, rfl, rfl, hS, (Nat.zero_le _), (fun i hi => absurd hi (Nat.not_lt_zero i)), rfl⟩ ?_
    clear hS
    rintro f w _ ⟨k, h0, h1, h5, hS, hk, hI, rfl⟩
    refine seq ?_
    refine seq ?_
    refine region ?_
    refine sv (yMove h5) ?_
    refine sv (yMove h0) ?_
    refine sv (yLen rfl Try.underlying49) ?_
    refine sv (yLss rfl rfl) ?_
    refine nil ?_
    show Code.wp _ _ _ _ _
    refine cond rfl (fun c14 => ?_) (fun c14 => ?_)
    ·
      simp only [Bool.and_eq_true, Bool.or_eq_true, Bool.and_eq_false_iff, Bool.or_eq_false_iff, decide_eq_true_eq, decide_eq_false_iff_not, Bool.not_eq_true, Bool.not_eq_false, Bool.not_not, Bool.not_eq_eq_eq_not, Bool.not_true, Bool.not_false, Bool.false_eq_true, Bool.true_eq_false, ne_eq, Decidable.not_not, not_false_eq_true, not_true_eq_false] at c14
      obtain ⟨x, hx, hd⟩ := drop_of (l := la) (k := k) (by omega)
      obtain ⟨b, o, cs, ha, hlen, hcs, hR⟩ := hela (k) (by omega)
      obtain rfl : x = la[k] := (List.getElem?_eq_some_iff.1 hx).2.symm
      generalize la[k] = x at hx hd hR
      obtain ⟨rfl, _⟩ := hR
      obtain ⟨y, hxq, hdq⟩ := drop_of (l := lb) (k := k) (by omega)
      obtain ⟨bq, oq, csq, haq, hlenq, hcsq, hRq⟩ := helb (k) (by omega)
      obtain rfl : y = lb[k] := (List.getElem?_eq_some_iff.1 hxq).2.symm
      generalize lb[k] = y at hxq hdq hRq
      obtain ⟨rfl, _⟩ := hRq
      refine skip ?_
      show Code.wp _ _ _ _ _
      refine seq ?_
      refine block ?_
      refine seq ?_
      refine region_draw mixed (by kernel_rfl) hS ?_
      refine qv (fun w hS => (yMove h0)) ?_
      refine qv (fun w hS => (yMove h5)) ?_
      refine qv (fun w hS => (yIxa rfl ha rfl Try.runUnderlying49 Try.sizeOf31 (by omega) (by omega))) ?_
      refine qv (fun w hS => (yLd rfl Try.isAgg31 ((hcs.ext hS.ext).one))) ?_
      refine qv (fun w hS => (yMove h1)) ?_
      refine qv (fun w hS => (yMove h5)) ?_
      refine qv (fun w hS => (yIxa rfl haq rfl Try.runUnderlying49 Try.sizeOf31 (by omega) (by omega))) ?_
      refine qv (fun w hS => (yLd rfl Try.isAgg31 ((hcsq.ext hS.ext).one))) ?_
      refine qv (fun w hS => (yNeq rfl rfl)) ?_
      clear hS; refine qnil (fun w hS => ?_)
      show Code.wp _ _ _ _ _
      refine cond rfl (fun c25 => ?_) (fun c25 => ?_)
      ·
        simp only [Bool.and_eq_true, Bool.or_eq_true, Bool.and_eq_false_iff, Bool.or_eq_false_iff, decide_eq_true_eq, decide_eq_false_iff_not, Bool.not_eq_true, Bool.not_eq_false, Bool.not_not, Bool.not_eq_eq_eq_not, Bool.not_true, Bool.not_false, Bool.false_eq_true, Bool.true_eq_false, ne_eq, Decidable.not_not, not_false_eq_true, not_true_eq_false] at c25
        have hne : x ≠ y := fun h => by subst h; simp at c25
        refine seq ?_
        refine region ?_
        refine sv (yAsg rfl) ?_
        refine nil ?_
        show Code.wp _ _ _ _ _
        refine wp_ret (blockR (thenR (thenR (blockR (thenR ?_)))))
        exact retV (res1 rfl (eqB (by rw [decide_eq_false (ne_of_get hx hxq hne)]))) hS.ext
      ·
        simp only [Bool.and_eq_true, Bool.or_eq_true, Bool.and_eq_false_iff, Bool.or_eq_false_iff, decide_eq_true_eq, decide_eq_false_iff_not, Bool.not_eq_true, Bool.not_eq_false, Bool.not_not, Bool.not_eq_eq_eq_not, Bool.not_true, Bool.not_false, Bool.false_eq_true, Bool.true_eq_false, ne_eq, Decidable.not_not, not_false_eq_true, not_true_eq_false] at c25
        have hxy : x = y := c25
        refine skip ?_
        show Code.wp _ _ _ _ _
        refine region ?_
        refine sv (yMove h5) ?_
        refine sv (yAdd rfl rfl ⟨by omega, by omega⟩) ?_
        refine sv (yAsg rfl) ?_
        refine nil ?_
        exact ⟨_, _, rfl, ⟨k + 1, h0, h1, rfl, hS, (by omega), (snoc hI (by rw [hx, hxq, hxy])), rfl⟩, by omega⟩
    ·
      simp only [Bool.and_eq_true, Bool.or_eq_true, Bool.and_eq_false_iff, Bool.or_eq_false_iff, decide_eq_true_eq, decide_eq_false_iff_not, Bool.not_eq_true, Bool.not_eq_false, Bool.not_not, Bool.not_eq_eq_eq_not, Bool.not_true, Bool.not_false, Bool.false_eq_true, Bool.true_eq_false, ne_eq, Decidable.not_not, not_false_eq_true, not_true_eq_false] at c14
      refine exit ?_
      show Code.wp _ _ _ _ _
      refine seq ?_
      refine region ?_
      refine sv (yAsg rfl) ?_
      refine nil ?_
      show Code.wp _ _ _ _ _
      refine wp_ret ?_
      exact retV (res1 rfl (eqB (by rw [decide_eq_true (eq_of_get (by omega) (fun i hi => hI i (by omega)))]))) hS.ext
end Go.Proofs.Ytghgnofilbnbaaa
/- part Ck25 -/
namespace Go.Proofs.Ytghgnofilbnbaaa
open Go Bx
set_option maxHeartbeats 4000000 in
/-- barrage/barragelaw10.Example -/
theorem c_Example {w0 : World} : CE Try.prog 39 #[] w0 (fun u w' => ∃ cs : List Value, u = .agg cs.toArray ∧ RCrew w' cs exC ∧ Ext w0 w') := by
  refine enter Try.func39 rfl Try.ntmps39 rfl ?_
  have hS := St.start w0
  refine seq ?_
  refine region ?_
  refine salloc hS Try.zeroValue26 rfl ?_; clear hS; intro b0 w hS
  refine nil ?_
  show Code.wp _ _ _ _ _
  refine seq ?_
  refine region ?_
  refine sv (yBuild Try.zeroValue44 rfl pl44 (.cons rfl rfl .nil) rfl) ?_
  refine sbslice hS Try.underlying40 Try.sizeOf44 rfl Try.zeroValue44 rfl (.cons rfl rfl .nil) rfl ?_; clear hS; intro b2 w hS
  refine sv (yBuild Try.zeroValue42 rfl pl42 (.cons rfl rfl (.cons rfl rfl (.cons rfl rfl .nil))) rfl) ?_
  refine sv (yBuild Try.zeroValue44 rfl pl44 (.cons rfl rfl .nil) rfl) ?_
  refine sv (yBuild Try.zeroValue44 rfl pl44 (.cons rfl rfl (.cons rfl rfl .nil)) rfl) ?_
  refine sbslice hS Try.underlying40 Try.sizeOf44 rfl Try.zeroValue44 rfl (.cons rfl rfl (.cons rfl rfl .nil)) rfl ?_; clear hS; intro b6 w hS
  refine sv (yBuild Try.zeroValue42 rfl pl42 (.cons rfl rfl (.cons rfl rfl (.cons rfl rfl .nil))) rfl) ?_
  refine sv (yBuild Try.zeroValue44 rfl pl44 (.cons rfl rfl (.cons rfl rfl .nil)) rfl) ?_
  refine sbslice hS Try.underlying40 Try.sizeOf44 rfl Try.zeroValue44 rfl (.cons rfl rfl .nil) rfl ?_; clear hS; intro b9 w hS
  refine sv (yBuild Try.zeroValue42 rfl pl42 (.cons rfl rfl (.cons rfl rfl (.cons rfl rfl .nil))) rfl) ?_
  refine sbslice hS Try.underlying22 Try.sizeOf42 rfl Try.zeroValue42 rfl (.cons rfl rfl (.cons rfl rfl (.cons rfl rfl .nil))) rfl ?_; clear hS; intro b11 w hS
  refine sbslice hS Try.underlying23 Try.sizeOf9 rfl Try.zeroValue9 rfl (.cons rfl rfl (.cons rfl rfl .nil)) rfl ?_; clear hS; intro b12 w hS
  refine sv (yBuild Try.zeroValue79 rfl pl79 (.cons rfl rfl (.cons rfl rfl .nil)) rfl) ?_
  refine sbslice hS Try.underlying30 Try.sizeOf3 rfl Try.zeroValue3 rfl (.cons rfl rfl (.cons rfl rfl .nil)) rfl ?_; clear hS; intro b14 w hS
  refine sv (yBuild Try.zeroValue79 rfl pl79 (.cons rfl rfl (.cons rfl rfl (.cons rfl rfl (.cons rfl rfl (.cons rfl rfl (.cons rfl rfl .nil)))))) rfl) ?_
  refine sbslice hS Try.underlying24 Try.sizeOf79 rfl Try.zeroValue79 rfl (.cons rfl rfl (.cons rfl rfl .nil)) rfl ?_; clear hS; intro b16 w hS
  refine sv (yBuild Try.zeroValue26 rfl pl26 (.cons rfl rfl (.cons rfl rfl (.cons rfl rfl .nil))) rfl) ?_
  refine sst hS rfl rfl Try.sizeOf26 rfl rfl rfl rfl ?_; clear hS; intro w hS
  refine nil ?_
  show Code.wp _ _ _ _ _
  refine wp_ret ?_
  refine retQ (resV1 rfl (rc rfl Try.isAgg26 Try.sizeOf26 (hS.at b0) rfl rfl)) ?_
  exact ⟨_, rfl, ⟨_, _, _, rfl, (show Sl w 3 ROpr (.slice (some ⟨b11, 0, none⟩) 3 3) ([exO1, exO2, exO3] : List Opr) from sl_of_blk (hS.at b11) (css := [[.string ⟨#[97, 110, 110]⟩, .int .i64 5, .slice (some ⟨b2, 0, none⟩) 1 1], [.string ⟨#[98, 111, 98]⟩, .int .i64 3, .slice (some ⟨b6, 0, none⟩) 2 2], [.string ⟨#[101, 118, 101]⟩, .int .i64 4, .slice (some ⟨b9, 0, none⟩) 1 1]]) (l := ([exO1, exO2, exO3] : List Opr)) rfl ⟨rfl, ⟨_, rfl, by decide, by decide, (show Sl w 2 RSpn (.slice (some ⟨b2, 0, none⟩) 1 1) ([⟨0, 600⟩] : List Spn) from sl_of_blk (hS.at b2) (css := [[.int .i64 0, .int .i64 600]]) (l := ([⟨0, 600⟩] : List Spn)) rfl ⟨rfl, ⟨rfl, by decide, by decide⟩, trivial⟩ (by decide) rfl), (Nat.le_of_ble_eq_true rfl)⟩, rfl, ⟨_, rfl, by decide, by decide, (show Sl w 2 RSpn (.slice (some ⟨b6, 0, none⟩) 2 2) ([⟨0, 300⟩, ⟨400, 600⟩] : List Spn) from sl_of_blk (hS.at b6) (css := [[.int .i64 0, .int .i64 300], [.int .i64 400, .int .i64 600]]) (l := ([⟨0, 300⟩, ⟨400, 600⟩] : List Spn)) rfl ⟨rfl, ⟨rfl, by decide, by decide⟩, rfl, ⟨rfl, by decide, by decide⟩, trivial⟩ (by decide) rfl), (Nat.le_of_ble_eq_true rfl)⟩, rfl, ⟨_, rfl, by decide, by decide, (show Sl w 2 RSpn (.slice (some ⟨b9, 0, none⟩) 1 1) ([⟨200, 600⟩] : List Spn) from sl_of_blk (hS.at b9) (css := [[.int .i64 200, .int .i64 600]]) (l := ([⟨200, 600⟩] : List Spn)) rfl ⟨rfl, ⟨rfl, by decide, by decide⟩, trivial⟩ (by decide) rfl), (Nat.le_of_ble_eq_true rfl)⟩, trivial⟩ (by decide) rfl), (show Sl w 1 RNam (.slice (some ⟨b12, 0, none⟩) 2 2) ([⟨#[114, 101, 100]⟩, ⟨#[98, 108, 117, 101]⟩] : List ByteArray) from sl_of_blk (hS.at b12) (css := [[.string ⟨#[114, 101, 100]⟩], [.string ⟨#[98, 108, 117, 101]⟩]]) (l := ([⟨#[114, 101, 100]⟩, ⟨#[98, 108, 117, 101]⟩] : List ByteArray)) rfl ⟨rfl, ⟨rfl, by decide⟩, rfl, ⟨rfl, by decide⟩, trivial⟩ (by decide) rfl), (show Sl w 6 RKnd (.slice (some ⟨b16, 0, none⟩) 2 2) ([exK1, exK2] : List Knd) from sl_of_blk (hS.at b16) (css := [[.string ⟨#[108, 111, 111, 107]⟩, .int .i64 1, .int .i64 0, .int .i64 0, .slice none 0 0, .bool false], [.string ⟨#[99, 108, 111, 115, 101]⟩, .int .i64 4, .int .i64 3, .int .i64 10, .slice (some ⟨b14, 0, none⟩) 2 2, .bool true]]) (l := ([exK1, exK2] : List Knd)) rfl ⟨rfl, ⟨_, rfl, by decide, by decide, by decide, by decide, Sl.nil, (Nat.le_of_ble_eq_true rfl)⟩, rfl, ⟨_, rfl, by decide, by decide, by decide, by decide, ints_sl (l := [0, 1]) (hS.at b14) (by decide) (by decide), (Nat.le_of_ble_eq_true rfl)⟩, trivial⟩ (by decide) rfl), (Nat.le_of_ble_eq_true rfl)⟩, hS.ext⟩
set_option maxHeartbeats 4000000 in
/-- barrage/barragelaw10.Acts -/
theorem c_Acts {w0 : World} : CE Try.prog 40 #[] w0 (fun u w' => Sl w' 6 RAct u exA ∧ Ext w0 w') := by
  refine enter Try.func40 rfl Try.ntmps40 rfl ?_
  have hS := St.start w0
  refine seq ?_
  refine region ?_
  refine sv (yAsg rfl) ?_
  refine nil ?_
  show Code.wp _ _ _ _ _
  refine seq ?_
  refine region ?_
  refine sv (yBuild Try.zeroValue53 rfl pl53 (.cons rfl rfl (.cons rfl rfl .nil)) rfl) ?_
  refine sv (yBuild Try.zeroValue53 rfl pl53 (.cons rfl rfl (.cons rfl rfl (.cons rfl rfl (.cons rfl rfl .nil)))) rfl) ?_
  refine sv (yBuild Try.zeroValue53 rfl pl53 (.cons rfl rfl (.cons rfl rfl (.cons rfl rfl (.cons rfl rfl .nil)))) rfl) ?_
  refine sv (yBuild Try.zeroValue53 rfl pl53 (.cons rfl rfl (.cons rfl rfl (.cons rfl rfl .nil))) rfl) ?_
  refine sv (yBuild Try.zeroValue53 rfl pl53 (.cons rfl rfl (.cons rfl rfl (.cons rfl rfl (.cons rfl rfl .nil)))) rfl) ?_
  refine sv (yBuild Try.zeroValue53 rfl pl53 (.cons rfl rfl (.cons rfl rfl (.cons rfl rfl (.cons rfl rfl .nil)))) rfl) ?_
  refine sv (yBuild Try.zeroValue53 rfl pl53 (.cons rfl rfl (.cons rfl rfl (.cons rfl rfl (.cons rfl rfl (.cons rfl rfl .nil))))) rfl) ?_
  refine sv (yBuild Try.zeroValue53 rfl pl53 (.cons rfl rfl (.cons rfl rfl .nil)) rfl) ?_
  refine sv (yBuild Try.zeroValue53 rfl pl53 (.cons rfl rfl (.cons rfl rfl (.cons rfl rfl .nil))) rfl) ?_
  refine sbslice hS Try.underlying37 Try.sizeOf53 rfl Try.zeroValue53 rfl (.cons rfl rfl (.cons rfl rfl (.cons rfl rfl (.cons rfl rfl (.cons rfl rfl (.cons rfl rfl (.cons rfl rfl (.cons rfl rfl (.cons rfl rfl .nil))))))))) rfl ?_; clear hS; intro b10 w hS
  refine sv (yAsg rfl) ?_
  refine nil ?_
  show Code.wp _ _ _ _ _
  refine wp_ret ?_
  refine retQ (res1 rfl rfl) ?_
  exact ⟨(show Sl w 6 RAct (.slice (some ⟨b10, 0, none⟩) 9 9) ([⟨10, 0, 1, 0, 0, 0⟩, ⟨11, 1, 1, 1, 0, 0⟩, ⟨12, 0, 4, 1, 0, 7⟩, ⟨13, 0, 5, 2, 0, 0⟩, ⟨22, 1, 5, 2, 0, 0⟩, ⟨22, 1, 5, 2, 0, 0⟩, ⟨23, 1, 4, 1, 0, 8⟩, ⟨20, 0, 4, 0, 0, 0⟩, ⟨310, 0, 1, 1, 0, 0⟩] : List Acn) from sl_of_blk (hS.at b10) (css := [[.int .i64 10, .int .i64 0, .int .i64 1, .int .i64 0, .int .i64 0, .int .i64 0], [.int .i64 11, .int .i64 1, .int .i64 1, .int .i64 1, .int .i64 0, .int .i64 0], [.int .i64 12, .int .i64 0, .int .i64 4, .int .i64 1, .int .i64 0, .int .i64 7], [.int .i64 13, .int .i64 0, .int .i64 5, .int .i64 2, .int .i64 0, .int .i64 0], [.int .i64 22, .int .i64 1, .int .i64 5, .int .i64 2, .int .i64 0, .int .i64 0], [.int .i64 22, .int .i64 1, .int .i64 5, .int .i64 2, .int .i64 0, .int .i64 0], [.int .i64 23, .int .i64 1, .int .i64 4, .int .i64 1, .int .i64 0, .int .i64 8], [.int .i64 20, .int .i64 0, .int .i64 4, .int .i64 0, .int .i64 0, .int .i64 0], [.int .i64 310, .int .i64 0, .int .i64 1, .int .i64 1, .int .i64 0, .int .i64 0]]) (l := ([⟨10, 0, 1, 0, 0, 0⟩, ⟨11, 1, 1, 1, 0, 0⟩, ⟨12, 0, 4, 1, 0, 7⟩, ⟨13, 0, 5, 2, 0, 0⟩, ⟨22, 1, 5, 2, 0, 0⟩, ⟨22, 1, 5, 2, 0, 0⟩, ⟨23, 1, 4, 1, 0, 8⟩, ⟨20, 0, 4, 0, 0, 0⟩, ⟨310, 0, 1, 1, 0, 0⟩] : List Acn)) rfl ⟨rfl, ⟨rfl, by decide, by decide, by decide, by decide, by decide, by decide⟩, rfl, ⟨rfl, by decide, by decide, by decide, by decide, by decide, by decide⟩, rfl, ⟨rfl, by decide, by decide, by decide, by decide, by decide, by decide⟩, rfl, ⟨rfl, by decide, by decide, by decide, by decide, by decide, by decide⟩, rfl, ⟨rfl, by decide, by decide, by decide, by decide, by decide, by decide⟩, rfl, ⟨rfl, by decide, by decide, by decide, by decide, by decide, by decide⟩, rfl, ⟨rfl, by decide, by decide, by decide, by decide, by decide, by decide⟩, rfl, ⟨rfl, by decide, by decide, by decide, by decide, by decide, by decide⟩, rfl, ⟨rfl, by decide, by decide, by decide, by decide, by decide, by decide⟩, trivial⟩ (by decide) rfl), hS.ext⟩
set_option maxHeartbeats 4000000 in
/-- barrage/barragelaw10.Drill -/
theorem c_Drill {w0 : World} : CE Try.prog 41 #[] w0 (fun u w' => ∃ cs : List Value, u = .agg cs.toArray ∧ RScr w' cs exS ∧ Ext w0 w') := by
  refine enter Try.func41 rfl Try.ntmps41 rfl ?_
  have hS := St.start w0
  refine seq ?_
  refine region ?_
  refine salloc hS Try.zeroValue29 rfl ?_; clear hS; intro b0 w hS
  refine nil ?_
  show Code.wp _ _ _ _ _
  refine seq ?_
  refine region ?_
  refine sv (yBuild Try.zeroValue89 rfl pl89 (.cons rfl rfl (.cons rfl rfl (.cons rfl rfl (.cons rfl rfl .nil)))) rfl) ?_
  refine sv (yBuild Try.zeroValue89 rfl pl89 (.cons rfl rfl (.cons rfl rfl (.cons rfl rfl .nil))) rfl) ?_
  refine sv (yBuild Try.zeroValue89 rfl pl89 (.cons rfl rfl (.cons rfl rfl (.cons rfl rfl (.cons rfl rfl (.cons rfl rfl .nil))))) rfl) ?_
  refine sbslice hS Try.underlying27 Try.sizeOf89 rfl Try.zeroValue89 rfl (.cons rfl rfl (.cons rfl rfl (.cons rfl rfl .nil))) rfl ?_; clear hS; intro b4 w hS
  refine sv (yBuild Try.zeroValue29 rfl pl29 (.cons rfl rfl (.cons rfl rfl .nil)) rfl) ?_
  refine sst hS rfl rfl Try.sizeOf29 rfl rfl rfl rfl ?_; clear hS; intro w hS
  refine nil ?_
  show Code.wp _ _ _ _ _
  refine wp_ret ?_
  refine retQ (resV1 rfl (rc rfl Try.isAgg29 Try.sizeOf29 (hS.at b0) rfl rfl)) ?_
  exact ⟨_, rfl, ⟨_, rfl, by decide, (show Sl w 5 RStp (.slice (some ⟨b4, 0, none⟩) 3 3) ([⟨1, 7, -1, 0, 30⟩, ⟨0, 1, 0, 5, 20⟩, ⟨1, 9, 1, 60, 90⟩] : List Stp) from sl_of_blk (hS.at b4) (css := [[.int .i64 1, .int .i64 7, .int .i64 (-1), .int .i64 0, .int .i64 30], [.int .i64 0, .int .i64 1, .int .i64 0, .int .i64 5, .int .i64 20], [.int .i64 1, .int .i64 9, .int .i64 1, .int .i64 60, .int .i64 90]]) (l := ([⟨1, 7, -1, 0, 30⟩, ⟨0, 1, 0, 5, 20⟩, ⟨1, 9, 1, 60, 90⟩] : List Stp)) rfl ⟨rfl, ⟨rfl, by decide, by decide, by decide, by decide, by decide⟩, rfl, ⟨rfl, by decide, by decide, by decide, by decide, by decide⟩, rfl, ⟨rfl, by decide, by decide, by decide, by decide, by decide⟩, trivial⟩ (by decide) rfl)⟩, hS.ext⟩
end Go.Proofs.Ytghgnofilbnbaaa
/- part Ck26 -/
namespace Go.Proofs.Ytghgnofilbnbaaa
open Go Bx
set_option maxHeartbeats 4000000 in
/-- barrage/barragelaw10.Awake -/
theorem c_Awake {w0 : World} : CV Try.prog 18 #[] w0 (.bool true) := by
  refine enter Try.func18 rfl Try.ntmps18 rfl ?_
  have hS := St.start w0
  refine seq ?_
  refine region ?_
  refine sv (yAsg rfl) ?_
  refine nil ?_
  show Code.wp _ _ _ _ _
  refine seq ?_
  refine region ?_
  refine scall Try.call39 .nil c_Example ?_
  rintro _ w ⟨cs1, rfl, hC1, hE⟩; replace hS := hS.step hE; clear hE
  refine scall Try.call40 .nil c_Acts ?_
  rintro av w ⟨hA, hE⟩; replace hC1 := hC1.ext hE; replace hS := hS.step hE; clear hE
  refine scall Try.call20 (.cons rfl (.cons rfl .nil)) (c_Play hC1 hA) ?_
  rw [ex_play.1, ex_play.2]
  rintro _ w ⟨lv, rfl, hM⟩; replace hS := hS.call1 hM; clear hM
  refine sv (yMove rfl) ?_
  refine sv (yExt rfl rfl) ?_
  refine sv (yExt rfl rfl) ?_
  refine sv (yAsg rfl) ?_
  refine sv (yAsg rfl) ?_
  refine nil ?_
  show Code.wp _ _ _ _ _
  refine seq ?_
  refine region ?_
  refine scall Try.call39 .nil c_Example ?_
  rintro _ w ⟨cs2, rfl, hC2, hE⟩; replace hS := hS.step hE; clear hE
  refine scall Try.call41 .nil c_Drill ?_
  rintro _ w ⟨sc2, rfl, hD2, hE⟩; replace hC2 := hC2.ext hE; replace hS := hS.step hE; clear hE
  refine scall Try.call15 (.cons rfl (.cons rfl (.cons rfl .nil))) (c_Plan hC2 hD2 (start := 500)) ?_
  rw [ex_plan.1, ex_plan.2]
  rintro _ w ⟨pv, rfl, hM⟩; replace hS := hS.call1 hM; clear hM
  refine sv (yMove rfl) ?_
  refine sv (yExt rfl rfl) ?_
  refine sv (yExt rfl rfl) ?_
  refine sv (yAsg rfl) ?_
  refine sv (yAsg rfl) ?_
  refine nil ?_
  show Code.wp _ _ _ _ _
  refine seq ?_
  refine region ?_
  refine scall Try.call39 .nil c_Example ?_
  rintro _ w ⟨cs3, rfl, hC3, hE⟩; replace hS := hS.step hE; clear hE
  refine scall Try.call41 .nil c_Drill ?_
  rintro _ w ⟨sc3, rfl, hD3, hE⟩; replace hC3 := hC3.ext hE; replace hS := hS.step hE; clear hE
  refine scall Try.call15 (.cons rfl (.cons rfl (.cons rfl .nil))) (c_Plan hC3 hD3 (start := 560)) ?_
  rw [ex_down]
  rintro _ w ⟨qv, rfl, hM⟩; replace hS := hS.call1 hM; clear hM
  refine sv (yMove rfl) ?_
  refine sv (yExt rfl rfl) ?_
  refine sv (yExt rfl rfl) ?_
  refine sv (yAsg rfl) ?_
  refine sv (yAsg rfl) ?_
  refine nil ?_
  show Code.wp _ _ _ _ _
  refine seq ?_
  refine region ?_
  refine sv (yMove rfl) ?_
  refine sv (yEql rfl rfl) ?_
  refine sv (yMove rfl) ?_
  refine ungo rfl rfl rfl ?_
  refine sv (yMove rfl) ?_
  refine ungo rfl rfl rfl ?_
  refine sv (yEql rfl rfl) ?_
  refine sv (yAnd rfl (fun hB => rfl) rfl) ?_
  refine sv (yMove rfl) ?_
  refine ungo rfl rfl rfl ?_
  refine sv (yMove rfl) ?_
  refine ungo rfl rfl rfl ?_
  refine sv (yEql rfl rfl) ?_
  refine sv (yAnd rfl (fun hB => rfl) rfl) ?_
  refine sv (yMove rfl) ?_
  refine ungo rfl rfl rfl ?_
  refine sv (yMove rfl) ?_
  refine ungo rfl rfl rfl ?_
  refine sbslice hS Try.underlying49 Try.sizeOf31 rfl Try.zeroValue31 rfl (.cons rfl rfl (.cons rfl rfl (.cons rfl rfl (.cons rfl rfl (.cons rfl rfl (.cons rfl rfl (.cons rfl rfl (.cons rfl rfl (.cons rfl rfl .nil))))))))) rfl ?_; clear hS; intro b37 w hS
  refine ungo rfl rfl rfl ?_
  refine scall Try.call21 (.cons rfl (.cons rfl .nil)) (c_errors (sl_ints (hS.row lv) rfl (by decide)) (ints_sl (b := b37) (l := [0, 0, 0, 204, 0, 206, 203, 200, 0]) (hS.at b37) (by decide) (by decide))) ?_
  rintro _ w ⟨rfl, hE⟩; replace hS := hS.step hE; clear hE
  refine sv (yAnd rfl (fun hB => rfl) rfl) ?_
  refine sv (yMove rfl) ?_
  refine ungo rfl rfl rfl ?_
  refine sv (yMove rfl) ?_
  refine ungo rfl rfl rfl ?_
  refine sbslice hS Try.underlying30 Try.sizeOf3 rfl Try.zeroValue3 rfl (.cons rfl rfl (.cons rfl rfl (.cons rfl rfl .nil))) rfl ?_; clear hS; intro b42 w hS
  refine ungo rfl rfl rfl ?_
  refine scall Try.call17 (.cons rfl (.cons rfl .nil)) (c_Ints (sl_ints (hS.row pv) rfl (by decide)) (ints_sl (b := b42) (l := [500, 505, 565]) (hS.at b42) (by decide) (by decide))) ?_
  rintro _ w ⟨rfl, hE⟩; replace hS := hS.step hE; clear hE
  refine sv (yAnd rfl (fun hB => rfl) rfl) ?_
  refine sv (yAsg rfl) ?_
  refine nil ?_
  show Code.wp _ _ _ _ _
  refine wp_ret ?_
  exact retV (res1 rfl rfl) hS.ext
end Go.Proofs.Ytghgnofilbnbaaa
/- part C14 -/
namespace Bx
open Go Go.RowKit
/-- What an act does to the orders that are open, and to those that took effect. -/
inductive Eff (x : Acn) (k : Int) (st : Rm) : Int × Rm → Prop
  | same {F : Int × Rm} (h1 : F.2.opn = st.opn) (h2 : F.2.ords = st.ords) (h3 : x.dw = 6 → F.1 ≠ 0) : Eff x k st F
  | opens {F : Int × Rm} (h1 : F.2.opn = st.opn ++ [k]) (h2 : F.2.ords = st.ords) (h3 : x.dw = 4) : Eff x k st F
  | once {F : Int × Rm} (o : Ord) (h1 : F.2.opn = st.opn) (h2 : F.2.ords = st.ords ++ [o]) (h3 : x.dw = 4) (h4 : o.giv = k) : Eff x k st F
  | twice {F : Int × Rm} (o : Ord) (h0 : x.what ∈ st.opn) (h1 : F.2.opn = st.opn.erase x.what) (h2 : F.2.ords = st.ords ++ [o]) (h3 : x.dw = 5) (h4 : o.giv = x.what) : Eff x k st F
  | back {F : Int × Rm} (h0 : x.what ∈ st.opn) (h1 : F.2.opn = st.opn.erase x.what) (h2 : F.2.ords = st.ords) (h3 : x.dw = 6) : Eff x k st F
theorem confE_mem {c : Crew} {acts : List Acn} {x : Acn} {st : Rm} (h : confE c acts x st = 0) : x.what ∈ st.opn := by
  unfold confE at h
  simp only [] at h
  split at h
  · cases h
  · rename_i hh; exact Classical.not_not.1 hh
theorem cancE_mem {c : Crew} {acts : List Acn} {x : Acn} {st : Rm} (h : cancE c acts x st = 0) : x.what ∈ st.opn := by
  unfold cancE at h
  split at h
  · cases h
  · rename_i hh; exact Classical.not_not.1 hh
theorem done_eff {c : Crew} {acts : List Acn} {k : Int} {x : Acn} {st : Rm} (hd : 1 ≤ x.dw ∧ x.dw ≤ 6) : Eff x k st (doneF c acts k x st) := by
  unfold doneF
  split
  · unfold takeF; split <;> exact .same rfl rfl (fun h => by omega)
  split
  · unfold giveF; split <;> exact .same rfl rfl (fun h => by omega)
  split
  · unfold giveF; split <;> exact .same rfl rfl (fun h => by omega)
  split
  · rename_i h4
    unfold orderF
    simp only []
    split
    · exact .same rfl rfl (fun h => by omega)
    split
    · exact .opens rfl rfl h4
    split
    · exact .same rfl rfl (fun h => by omega)
    · exact .once _ rfl rfl h4 rfl
  split
  · rename_i h5
    unfold confirmF
    split
    · exact .same rfl rfl (fun h => by omega)
    · rename_i h0
      exact .twice _ (confE_mem (Classical.not_not.1 h0)) rfl rfl h5 rfl
  · unfold cancelF
    split
    · rename_i h0; exact .same rfl rfl (fun _ => h0)
    · rename_i h0
      exact .back (cancE_mem (Classical.not_not.1 h0)) rfl rfl (by omega)
theorem do_eff {c : Crew} {acts : List Acn} {k : Int} {x : Acn} {st : Rm} (hd : 1 ≤ x.dw ∧ x.dw ≤ 6) : Eff x k st (doF c acts k x st) := by
  unfold doF
  split
  · exact .same rfl rfl (fun _ => by show (200 : Int) ≠ 0; decide)
  split
  · exact .same rfl rfl (fun _ => by show (201 : Int) ≠ 0; decide)
  · cases done_eff (c := c) (acts := acts) (k := k) (st := { st with now := x.tm }) hd with
    | same h1 h2 h3 => exact .same h1 h2 h3
    | opens h1 h2 h3 => exact .opens h1 h2 h3
    | once o h1 h2 h3 h4 => exact .once o h1 h2 h3 h4
    | twice o h0 h1 h2 h3 h4 => exact .twice o h0 h1 h2 h3 h4
    | back h0 h1 h2 h3 => exact .back h0 h1 h2 h3
structure CanInv (acts : List Acn) (k : Nat) (l : List Int) (st : Rm) : Prop where
  nd : st.opn.Nodup
  ap : ∀ o ∈ st.ords, o.giv ∉ st.opn
  cn : ∀ i : Nat, i < k → (actAt acts i).dw = 6 → l.getD i 1 = 0 → (actAt acts i).what ∉ st.opn ∧ (actAt acts i).what < k ∧ ∀ o ∈ st.ords, o.giv ≠ (actAt acts i).what
theorem canInv_step {c : Crew} {acts : List Acn} {k : Nat} {l : List Int} {st : Rm} {x : Acn} (h : CanInv acts k l st) (hr : RmOk c acts k st) (hl : l.length = k) (hx : acts[k]? = some x) (hok : ActOk c k x) :
    CanInv acts (k + 1) (l ++ [(doF c acts k x st).1]) (doF c acts k x st).2 := by
  have hxa := actAt_nat hx
  have old : ∀ i : Nat, i < k + 1 → (actAt acts i).dw = 6 → (l ++ [(doF c acts k x st).1]).getD i 1 = 0 → (i < k ∧ l.getD i 1 = 0) ∨ (i = k ∧ x.dw = 6 ∧ (doF c acts k x st).1 = 0) := by
    intro i hi hd hg
    rw [getD_app hl] at hg
    split at hg
    · exact .inl ⟨by assumption, hg⟩
    · obtain rfl : i = k := by omega
      rw [if_pos rfl] at hg
      rw [hxa] at hd
      exact .inr ⟨rfl, hd, hg⟩
  have hgiv : ∀ o ∈ st.ords, o.giv < k := fun o ho => (hr.ords o ho).1.2
  have hopk : (k : Int) ∉ st.opn := hr.new
  cases do_eff (c := c) (acts := acts) (k := (k : Int)) (st := st) hok.dw with
  | same h1 h2 h3 =>
    refine ⟨by rw [h1]; exact h.nd, by rw [h1, h2]; exact h.ap, fun i hi hd hg => ?_⟩
    rw [h1, h2]
    rcases old i hi hd hg with ⟨a, b⟩ | ⟨rfl, a, b⟩
    · obtain ⟨p, q, r⟩ := h.cn i a hd b; exact ⟨p, by omega, r⟩
    · exact absurd b (h3 a)
  | opens h1 h2 h3 =>
    refine ⟨by rw [h1]; exact List.nodup_append.2 ⟨h.nd, by simp, fun a ha b hb e => by rw [List.mem_singleton.1 hb] at e; subst e; exact hopk ha⟩, ?_, fun i hi hd hg => ?_⟩
    · rw [h1, h2]
      intro o ho hm
      rcases List.mem_append.1 hm with hm | hm
      · exact h.ap o ho hm
      · have := hgiv o ho; rw [List.mem_singleton.1 hm] at this; omega
    · rw [h1, h2]
      rcases old i hi hd hg with ⟨a, b⟩ | ⟨rfl, a, b⟩
      · obtain ⟨p, q, r⟩ := h.cn i a hd b
        refine ⟨fun hm => ?_, by omega, r⟩
        rcases List.mem_append.1 hm with hm | hm
        · exact p hm
        · rw [List.mem_singleton.1 hm] at q; omega
      · omega
  | once o h1 h2 h3 h4 =>
    refine ⟨by rw [h1]; exact h.nd, ?_, fun i hi hd hg => ?_⟩
    · rw [h1, h2]
      intro o' ho
      rcases List.mem_append.1 ho with ho | ho
      · exact h.ap o' ho
      · rw [List.mem_singleton.1 ho, h4]; exact hopk
    · rw [h1, h2]
      rcases old i hi hd hg with ⟨a, b⟩ | ⟨rfl, a, b⟩
      · obtain ⟨p, q, r⟩ := h.cn i a hd b
        refine ⟨p, by omega, fun o' ho => ?_⟩
        rcases List.mem_append.1 ho with ho | ho
        · exact r o' ho
        · rw [List.mem_singleton.1 ho, h4]; omega
      · omega
  | twice o h0 h1 h2 h3 h4 =>
    have hnx : x.what ∉ st.opn.erase x.what := fun hm => by rw [h.nd.mem_erase_iff] at hm; exact hm.1 rfl
    refine ⟨by rw [h1]; exact h.nd.erase _, ?_, fun i hi hd hg => ?_⟩
    · rw [h1, h2]
      intro o' ho hm
      rcases List.mem_append.1 ho with ho | ho
      · exact h.ap o' ho (List.mem_of_mem_erase hm)
      · rw [List.mem_singleton.1 ho, h4] at hm; exact hnx hm
    · rw [h1, h2]
      rcases old i hi hd hg with ⟨a, b⟩ | ⟨rfl, a, b⟩
      · obtain ⟨p, q, r⟩ := h.cn i a hd b
        refine ⟨fun hm => p (List.mem_of_mem_erase hm), by omega, fun o' ho => ?_⟩
        rcases List.mem_append.1 ho with ho | ho
        · exact r o' ho
        · rw [List.mem_singleton.1 ho, h4]; intro e; rw [e] at h0; exact p h0
      · omega
  | back h0 h1 h2 h3 =>
    have hnx : x.what ∉ st.opn.erase x.what := fun hm => by rw [h.nd.mem_erase_iff] at hm; exact hm.1 rfl
    refine ⟨by rw [h1]; exact h.nd.erase _, ?_, fun i hi hd hg => ?_⟩
    · rw [h1, h2]
      intro o' ho hm
      exact h.ap o' ho (List.mem_of_mem_erase hm)
    · rw [h1, h2]
      rcases old i hi hd hg with ⟨a, b⟩ | ⟨rfl, a, b⟩
      · obtain ⟨p, q, r⟩ := h.cn i a hd b
        exact ⟨fun hm => p (List.mem_of_mem_erase hm), by omega, r⟩
      · rw [hxa]
        have := hr.opn _ h0
        exact ⟨hnx, by omega, fun o ho e => h.ap o ho (by rw [e]; exact h0)⟩
theorem plN_inv {c : Crew} {acts : List Acn} (hc : CrewOk c) (hall : ∀ (j : Nat) y, acts[j]? = some y → ActOk c j y) : ∀ k, k ≤ acts.length → RmOk c acts k (plN c acts k).2 ∧ CanInv acts k (plN c acts k).1 (plN c acts k).2
  | 0, _ => ⟨rmOk_0 c acts hc, ⟨List.nodup_nil, fun o ho => (List.not_mem_nil ho).elim, fun i hi => absurd hi (Nat.not_lt_zero i)⟩⟩
  | k + 1, hk => by
    obtain ⟨h1, h2⟩ := plN_inv hc hall k (by omega)
    have hx := List.getElem?_eq_getElem (show k < acts.length by omega)
    rw [plN_succ hx]
    exact ⟨rmOk_do h1 (hall k _ hx) hx hall, canInv_step h2 h1 (plN_len c acts k) hx (hall k _ hx)⟩
theorem play_ok {c : Crew} {acts : List Acn} (h : playE c acts = 0) : CrewOk c ∧ acts.length ≤ 60 ∧ ∀ (j : Nat) y, acts[j]? = some y → ActOk c j y := by
  unfold playE at h
  split at h
  · rename_i h1; exact absurd h h1
  split at h
  · cases h
  · rename_i h1 h2
    refine ⟨crewOk_of (Classical.not_not.1 h1), by omega, fun j y hy => ?_⟩
    have := firstA_ok h j y hy
    rwa [Int.zero_add] at this
theorem cancelled {c : Crew} {acts : List Acn} (h : playE c acts = 0) {i : Nat} {x : Acn} {o : Ord} {w : Int} (hx : acts[i]? = some x) (hd : x.dw = 6) (hw : (playL c acts)[i]? = some w) (h0 : w = 0) (ho : o ∈ playO c acts) : o.giv ≠ x.what := by
  obtain ⟨hc, _, hall⟩ := play_ok h
  obtain ⟨_, h2⟩ := plN_inv hc hall acts.length (Nat.le_refl _)
  have hxa := actAt_nat hx
  have e1 : playL c acts = (plN c acts acts.length).1 := if_neg (not_not_intro h)
  have e2 : playO c acts = (plN c acts acts.length).2.ords := if_neg (not_not_intro h)
  rw [e1] at hw
  rw [e2] at ho
  have hil := (List.getElem?_eq_some_iff.1 hx).1
  obtain ⟨_, _, r⟩ := h2.cn i hil (by rw [hxa]; exact hd) (by rw [getD_hit hw]; exact h0)
  rw [hxa] at r
  exact r o ho
end Bx
/- part Ck27 -/
namespace Go.Proofs.Ytghgnofilbnbaaa
open Go Bx
set_option maxHeartbeats 4000000 in
/-- barrage/barragelaw10.CrewCancelled -/
theorem w_CrewCancelled {c : Crew} {cs : List Value} {acts : List Acn} {av : Value} {w0 : World} (h : RCrew w0 cs c) (ha : Sl w0 6 RAct av acts) : CV Try.prog 5 #[.agg cs.toArray, av] w0 (.bool true) := by
  obtain ⟨ov, kv, nv, rfl, hso, hsk, hsn, hrm⟩ := id h
  obtain ⟨a, cap, rfl, hcap, hmx, hel⟩ := id hso
  obtain ⟨aa, ca, rfl, hacap, hamx, hela⟩ := id ha
  refine enter Try.func5 rfl Try.ntmps5 rfl ?_
  have hS := St.start w0
  refine seq ?_
  refine region ?_
  refine sbox hS rfl rfl ?_; clear hS; intro b2 w hS
  refine sv (yAsg rfl) ?_
  refine nil ?_
  show Code.wp _ _ _ _ _
  refine seq ?_
  refine region ?_
  refine sv (yLdBA rfl Try.isAgg26 Try.sizeOf26 (hS.at _) rfl rfl) ?_
  refine sv (yMove rfl) ?_
  refine scall Try.call19 (.cons rfl (.cons rfl .nil)) (c_Orders (h.ext hS.ext) (ha.ext RAct.stays hS.ext)) ?_
  rintro _ w ⟨ov, rfl, hM⟩; replace hS := hS.call1 hM; clear hM
  refine sv (yMove rfl) ?_
  refine sv (yExt rfl rfl) ?_
  refine sv (yExt rfl rfl) ?_
  refine sv (yAsg rfl) ?_
  refine sv (yAsg rfl) ?_
  refine nil ?_
  show Code.wp _ _ _ _ _
  refine seq ?_
  refine region ?_
  refine sv (yLdBA rfl Try.isAgg26 Try.sizeOf26 (hS.at _) rfl rfl) ?_
  refine sv (yMove rfl) ?_
  refine scall Try.call20 (.cons rfl (.cons rfl .nil)) (c_Play (h.ext hS.ext) (ha.ext RAct.stays hS.ext)) ?_
  rintro _ w ⟨lv, rfl, hM⟩; replace hS := hS.call1 hM; clear hM
  refine sv (yMove rfl) ?_
  refine sv (yExt rfl rfl) ?_
  refine sv (yExt rfl rfl) ?_
  refine sv (yAsg rfl) ?_
  refine sv (yAsg rfl) ?_
  refine nil ?_
  show Code.wp _ _ _ _ _
  refine seq ?_
  refine seq ?_
  refine region ?_
  refine sv (yMove rfl) ?_
  refine sv (yNeq rfl rfl) ?_
  refine sv (yMove rfl) ?_
  refine sg rfl rfl rfl (fun g => (yMove rfl)) (fun v26 g26 => ?_)
  refine sg rfl rfl rfl (fun g => (yNeq (g26.1 g) rfl)) (fun v27 g27 => ?_)
  refine sv (yOr rfl rfl (fun hB => (g27.1 hB))) ?_
  refine nil ?_
  show Code.wp _ _ _ _ _
  refine cond rfl (fun c28 => ?_) (fun c28 => ?_)
  ·
    simp only [Bool.and_eq_true, Bool.or_eq_true, Bool.and_eq_false_iff, Bool.or_eq_false_iff, decide_eq_true_eq, decide_eq_false_iff_not, Bool.not_eq_true, Bool.not_eq_false, Bool.not_not, Bool.not_eq_eq_eq_not, Bool.not_true, Bool.not_false, Bool.false_eq_true, Bool.true_eq_false, ne_eq, Decidable.not_not, not_false_eq_true, not_true_eq_false] at c28
    refine seq ?_
    refine region ?_
    refine sv (yMove rfl) ?_
    refine sv (yMove rfl) ?_
    refine sv (yEql rfl rfl) ?_
    refine sv (yMove rfl) ?_
    refine sgc hS rfl rfl rfl Try.call18 (fun g => .nil) (fun g => c_Awake) ?_; clear hS; intro v33 w hS g33
    refine sv (yAnd rfl (fun hB => (g33.1 hB)) rfl) ?_
    refine sv (yAsg rfl) ?_
    refine nil ?_
    show Code.wp _ _ _ _ _
    refine wp_ret (thenR ?_)
    exact retV (res1 rfl (eqB (by simp))) hS.ext
  ·
    simp only [Bool.and_eq_true, Bool.or_eq_true, Bool.and_eq_false_iff, Bool.or_eq_false_iff, decide_eq_true_eq, decide_eq_false_iff_not, Bool.not_eq_true, Bool.not_eq_false, Bool.not_not, Bool.not_eq_eq_eq_not, Bool.not_true, Bool.not_false, Bool.false_eq_true, Bool.true_eq_false, ne_eq, Decidable.not_not, not_false_eq_true, not_true_eq_false] at c28
    have hE : playE c acts = 0 := c28.1
    have hll : (playL c acts).length = acts.length := by rw [playL_ok hE, plN_len]
    obtain ⟨al, cl, rfl⟩ := row_shape (hS.row lv)
    obtain ⟨ao, co, rfl⟩ := row_shape (hS.row ov)
    obtain ⟨hc9, hn60, hall9⟩ := play_ok hE
    have hol : (playO c acts).length ≤ acts.length := by rw [playO_ok hE]; exact (plN_inv hc9 hall9 _ (Nat.le_refl _)).1.nord
    refine skip ?_
    show Code.wp _ _ _ _ _
    refine seq ?_
    refine seq ?_
    refine region ?_
    refine sv (yMove rfl) ?_
    refine sv (yLen rfl Try.underlying49) ?_
    refine sv (yMove rfl) ?_
    refine sv (yLen rfl Try.underlying37) ?_
    refine sv (yNeq rfl rfl) ?_
    refine nil ?_
    show Code.wp _ _ _ _ _
    refine cond rfl (fun c39 => ?_) (fun c39 => ?_)
    ·
      simp only [Bool.and_eq_true, Bool.or_eq_true, Bool.and_eq_false_iff, Bool.or_eq_false_iff, decide_eq_true_eq, decide_eq_false_iff_not, Bool.not_eq_true, Bool.not_eq_false, Bool.not_not, Bool.not_eq_eq_eq_not, Bool.not_true, Bool.not_false, Bool.false_eq_true, Bool.true_eq_false, ne_eq, Decidable.not_not, not_false_eq_true, not_true_eq_false] at c39
      exfalso; omega
    ·
      simp only [Bool.and_eq_true, Bool.or_eq_true, Bool.and_eq_false_iff, Bool.or_eq_false_iff, decide_eq_true_eq, decide_eq_false_iff_not, Bool.not_eq_true, Bool.not_eq_false, Bool.not_not, Bool.not_eq_eq_eq_not, Bool.not_true, Bool.not_false, Bool.false_eq_true, Bool.true_eq_false, ne_eq, Decidable.not_not, not_false_eq_true, not_true_eq_false] at c39
      refine skip ?_
      show Code.wp _ _ _ _ _
      refine seq ?_
      refine seq ?_
      refine region ?_
      refine sv (yAsg rfl) ?_
      refine nil ?_
      show Code.wp _ _ _ _ _
      refine block ?_
      refine loop (fun f w zz => ∃ (k : Nat), f 1 = .slice aa acts.length ca ∧ f 5 = .slice ao (playO c acts).length co ∧ f 7 = .slice al (playL c acts).length cl ∧ f 9 = .int .i64 (k : Int) ∧ StX [] w0 w [rowI (.slice al (playL c acts).length cl) 31 1 (playL c acts).length ((playL c acts).flatMap Bx.encI), rowI (.slice ao (playO c acts).length co) 55 5 (playO c acts).length ((playO c acts).flatMap ordC)] ∧ (k ≤ acts.length) ∧ zz = acts.length - k) _ ⟨_, rfl, 0, rfl, rfl, rfl, rfl, (hS.sub (.cons_cons _ (.cons_cons _ (List.nil_sublist _)))), (Nat.zero_le _), rfl⟩ ?_
      clear hS
      rintro f w _ ⟨k, h1, h5, h7, h9, hS, hk, rfl⟩
      refine seq ?_
      refine seq ?_
      refine region ?_
      refine sv (yMove h9) ?_
      refine sv (yMove h1) ?_
      refine sv (yLen rfl Try.underlying37) ?_
      refine sv (yLss rfl rfl) ?_
      refine nil ?_
      show Code.wp _ _ _ _ _
      refine cond rfl (fun c43 => ?_) (fun c43 => ?_)
      ·
        simp only [Bool.and_eq_true, Bool.or_eq_true, Bool.and_eq_false_iff, Bool.or_eq_false_iff, decide_eq_true_eq, decide_eq_false_iff_not, Bool.not_eq_true, Bool.not_eq_false, Bool.not_not, Bool.not_eq_eq_eq_not, Bool.not_true, Bool.not_false, Bool.false_eq_true, Bool.true_eq_false, ne_eq, Decidable.not_not, not_false_eq_true, not_true_eq_false] at c43
        refine skip ?_
        show Code.wp _ _ _ _ _
        refine seq ?_
        refine block ?_
        refine seq ?_
        refine seq ?_
        refine region ?_
        obtain ⟨x, hxq, hdq⟩ := drop_of (l := acts) (k := k) (by omega)
        obtain ⟨bq, oq, csq, haq, hlenq, hcsq, hRq⟩ := hela (k) (by omega)
        obtain rfl : x = acts[k] := (List.getElem?_eq_some_iff.1 hxq).2.symm
        generalize acts[k] = x at hxq hdq hRq
        obtain ⟨rfl, hxi⟩ := hRq
        obtain ⟨v, hxw, -⟩ := drop_of (l := playL c acts) (k := k) (by omega)
        obtain ⟨gl, hgl, -⟩ := row_get (hS.row (.slice al (playL c acts).length cl)) (by omega)
        refine sv (yMove h1) ?_
        refine sv (yMove h9) ?_
        refine sv (yIxa rfl haq rfl Try.runUnderlying37 Try.sizeOf53 (by omega) (by omega)) ?_
        refine sv (fa53_2 rfl) ?_
        refine sv (yLd rfl Try.isAgg3 ((hcsq.ext hS.ext).at (j := 2) rfl)) ?_
        refine sv (yNeq rfl rfl) ?_
        refine sv (yMove rfl) ?_
        refine sg rfl rfl rfl (fun g => (yMove h7)) (fun v53 g53 => ?_)
        refine sg rfl rfl rfl (fun g => (yMove h9)) (fun v54 g54 => ?_)
        refine sg rfl rfl rfl (fun g => (yIx0 (((g53.1 g).trans (by rw [hgl])).trans (rfl : Value.slice (some ⟨gl, 0, none⟩) (playL c acts).length cl = _)) (g54.1 g) Try.runUnderlying49 Try.sizeOf31 (by omega))) (fun v55 g55 => ?_)
        refine sg rfl rfl rfl (fun g => (yLd (g55.1 g) Try.isAgg31 ((flat_cells0 (enc := Bx.encI) encI_len (row_at (hS.row (.slice al (playL c acts).length cl)) hgl (by omega)) hxw).one))) (fun v56 g56 => ?_)
        refine sg rfl rfl rfl (fun g => (yNeq (g56.1 g) rfl)) (fun v57 g57 => ?_)
        refine sv (yOr rfl rfl (fun hB => (g57.1 hB))) ?_
        refine nil ?_
        show Code.wp _ _ _ _ _
        refine cond rfl (fun c58 => ?_) (fun c58 => ?_)
        ·
          simp only [Bool.and_eq_true, Bool.or_eq_true, Bool.and_eq_false_iff, Bool.or_eq_false_iff, decide_eq_true_eq, decide_eq_false_iff_not, Bool.not_eq_true, Bool.not_eq_false, Bool.not_not, Bool.not_eq_eq_eq_not, Bool.not_true, Bool.not_false, Bool.false_eq_true, Bool.true_eq_false, ne_eq, Decidable.not_not, not_false_eq_true, not_true_eq_false] at c58
          refine exit ?_
          show Code.wp _ _ _ _ _
          refine region ?_
          refine sv (yMove h9) ?_
          refine sv (yAdd rfl rfl ⟨by omega, by omega⟩) ?_
          refine sv (yAsg rfl) ?_
          refine nil ?_
          exact ⟨_, _, rfl, ⟨k + 1, h1, h5, h7, rfl, hS, (by omega), rfl⟩, by omega⟩
        ·
          simp only [Bool.and_eq_true, Bool.or_eq_true, Bool.and_eq_false_iff, Bool.or_eq_false_iff, decide_eq_true_eq, decide_eq_false_iff_not, Bool.not_eq_true, Bool.not_eq_false, Bool.not_not, Bool.not_eq_eq_eq_not, Bool.not_true, Bool.not_false, Bool.false_eq_true, Bool.true_eq_false, ne_eq, Decidable.not_not, not_false_eq_true, not_true_eq_false] at c58
          refine skip ?_
          show Code.wp _ _ _ _ _
          refine seq ?_
          refine region ?_
          refine sv (yAsg rfl) ?_
          refine nil ?_
          show Code.wp _ _ _ _ _
          refine block ?_
          refine loop (fun f w zz => ∃ (j : Nat), f 1 = .slice aa acts.length ca ∧ f 5 = .slice ao (playO c acts).length co ∧ f 7 = .slice al (playL c acts).length cl ∧ f 9 = .int .i64 (k : Int) ∧ f 10 = .int .i64 (j : Int) ∧ StX [] w0 w [rowI (.slice al (playL c acts).length cl) 31 1 (playL c acts).length ((playL c acts).flatMap Bx.encI), rowI (.slice ao (playO c acts).length co) 55 5 (playO c acts).length ((playO c acts).flatMap ordC)] ∧ (j ≤ (playO c acts).length) ∧ zz = (playO c acts).length - j) _ ⟨_, rfl, 0, h1, h5, h7, h9, rfl, hS, (Nat.zero_le _), rfl⟩ ?_
          clear hS
          rintro f w _ ⟨j, h1, h5, h7, h9, h10, hS, hj, rfl⟩
          refine seq ?_
          refine seq ?_
          refine region ?_
          refine sv (yMove h10) ?_
          refine sv (yMove h5) ?_
          refine sv (yLen rfl Try.underlying46) ?_
          refine sv (yLss rfl rfl) ?_
          refine nil ?_
          show Code.wp _ _ _ _ _
          refine cond rfl (fun c62 => ?_) (fun c62 => ?_)
          ·
            simp only [Bool.and_eq_true, Bool.or_eq_true, Bool.and_eq_false_iff, Bool.or_eq_false_iff, decide_eq_true_eq, decide_eq_false_iff_not, Bool.not_eq_true, Bool.not_eq_false, Bool.not_not, Bool.not_eq_eq_eq_not, Bool.not_true, Bool.not_false, Bool.false_eq_true, Bool.true_eq_false, ne_eq, Decidable.not_not, not_false_eq_true, not_true_eq_false] at c62
            refine skip ?_
            show Code.wp _ _ _ _ _
            refine seq ?_
            refine block ?_
            refine seq ?_
            refine region_draw mixed (by kernel_rfl) hS ?_
            obtain ⟨o, hxo, -⟩ := drop_of (l := playO c acts) (k := j) (by omega)
            obtain ⟨go, rfl, -⟩ := row_get (hS.row (.slice ao (playO c acts).length co)) (by omega)
            refine qv (fun w hS => (yMove h5)) ?_
            refine qv (fun w hS => (yMove h10)) ?_
            refine qv (fun w hS => (yIx0 rfl rfl Try.runUnderlying46 Try.sizeOf55 (by omega))) ?_
            refine qv (fun w hS => (fa55_0 rfl)) ?_
            refine qv (fun w hS => (yLd rfl Try.isAgg3 ((flat_cells0 ordC_len (row_at (hS.row (.slice (some ⟨go, 0, none⟩) (playO c acts).length co)) rfl (by omega)) hxo).at (j := 0) rfl))) ?_
            refine qv (fun w hS => (yMove h1)) ?_
            refine qv (fun w hS => (yMove h9)) ?_
            refine qv (fun w hS => (yIxa rfl haq rfl Try.runUnderlying37 Try.sizeOf53 (by omega) (by omega))) ?_
            refine qv (fun w hS => (fa53_3 rfl)) ?_
            refine qv (fun w hS => (yLd rfl Try.isAgg3 ((hcsq.ext hS.ext).at (j := 3) rfl))) ?_
            refine qv (fun w hS => (yEql rfl rfl)) ?_
            clear hS; refine qnil (fun w hS => ?_)
            show Code.wp _ _ _ _ _
            refine cond rfl (fun c75 => ?_) (fun c75 => ?_)
            ·
              simp only [Bool.and_eq_true, Bool.or_eq_true, Bool.and_eq_false_iff, Bool.or_eq_false_iff, decide_eq_true_eq, decide_eq_false_iff_not, Bool.not_eq_true, Bool.not_eq_false, Bool.not_not, Bool.not_eq_eq_eq_not, Bool.not_true, Bool.not_false, Bool.false_eq_true, Bool.true_eq_false, ne_eq, Decidable.not_not, not_false_eq_true, not_true_eq_false] at c75
              exact absurd c75 (cancelled hE hxq c58.1 hxw c58.2 (List.mem_of_getElem? hxo))
            ·
              simp only [Bool.and_eq_true, Bool.or_eq_true, Bool.and_eq_false_iff, Bool.or_eq_false_iff, decide_eq_true_eq, decide_eq_false_iff_not, Bool.not_eq_true, Bool.not_eq_false, Bool.not_not, Bool.not_eq_eq_eq_not, Bool.not_true, Bool.not_false, Bool.false_eq_true, Bool.true_eq_false, ne_eq, Decidable.not_not, not_false_eq_true, not_true_eq_false] at c75
              refine skip ?_
              show Code.wp _ _ _ _ _
              refine region ?_
              refine sv (yMove h10) ?_
              refine sv (yAdd rfl rfl ⟨by omega, by omega⟩) ?_
              refine sv (yAsg rfl) ?_
              refine nil ?_
              exact ⟨_, _, rfl, ⟨j + 1, h1, h5, h7, h9, rfl, hS, (by omega), rfl⟩, by omega⟩
          ·
            simp only [Bool.and_eq_true, Bool.or_eq_true, Bool.and_eq_false_iff, Bool.or_eq_false_iff, decide_eq_true_eq, decide_eq_false_iff_not, Bool.not_eq_true, Bool.not_eq_false, Bool.not_not, Bool.not_eq_eq_eq_not, Bool.not_true, Bool.not_false, Bool.false_eq_true, Bool.true_eq_false, ne_eq, Decidable.not_not, not_false_eq_true, not_true_eq_false] at c62
            refine exit ?_
            show Code.wp _ _ _ _ _
            refine region ?_
            refine sv (yMove h9) ?_
            refine sv (yAdd rfl rfl ⟨by omega, by omega⟩) ?_
            refine sv (yAsg rfl) ?_
            refine nil ?_
            exact ⟨_, _, rfl, ⟨k + 1, h1, h5, h7, rfl, hS, (by omega), rfl⟩, by omega⟩
      ·
        simp only [Bool.and_eq_true, Bool.or_eq_true, Bool.and_eq_false_iff, Bool.or_eq_false_iff, decide_eq_true_eq, decide_eq_false_iff_not, Bool.not_eq_true, Bool.not_eq_false, Bool.not_not, Bool.not_eq_eq_eq_not, Bool.not_true, Bool.not_false, Bool.false_eq_true, Bool.true_eq_false, ne_eq, Decidable.not_not, not_false_eq_true, not_true_eq_false] at c43
        refine exit ?_
        show Code.wp _ _ _ _ _
        refine seq ?_
        refine region ?_
        refine scall Try.call18 .nil c_Awake ?_
        rintro _ w ⟨rfl, hE⟩; replace hS := hS.step hE; clear hE
        refine sv (yAsg rfl) ?_
        refine nil ?_
        show Code.wp _ _ _ _ _
        refine wp_ret ?_
        exact retV (res1 rfl rfl) hS.ext
end Go.Proofs.Ytghgnofilbnbaaa
/- part LibA -/
namespace Bx
open Go Go.RowKit
section
variable {P : Program} {ρ : Operand → Value} {w : World} {ty : TypeId}
/-- The first i parts of a slice. -/
theorem yTo {T E : TypeId} {x xi : Operand} {a : Option Addr} {cap i k m : Nat} {kd : IntKind} (hx : ρ x = .slice a m cap) (hi : ρ xi = .int kd (i : Int)) (hu : P.underlying T = some (.slice E)) (hs : ∀ w, (Go.sizeOf E).run P w = .ok k w) (hm : i ≤ cap) :
    Y P ρ (.slice T x none (some xi) none) ty w (.slice a i cap) w := by
  have hb : (0 : Int) ≤ (i : Int) ∧ (i : Int) ≤ (cap : Int) := ⟨by omega, by omega⟩
  have h1 : (if cap = 0 then a else a.map (·.add (0 * k))) = a := by
    cases a with
    | none => simp
    | some ad => simp [Addr.add]
  simp only [Y, xop, execOp, Option.map_some, Option.map_none, hx, hi, Instr.sliceAt, run_underlying hu, Sem.run_bind, Result.andThen_ok, Instr.slice, Instr.sliceBounds, Instr.sliceBound, asIntOf, Sem.run_pure, Sem.run_ite, hb, and_self, if_true, hs, Int.toNat_natCast, h1, Nat.sub_zero]
end
theorem Sl.take {α : Type} {w : World} {k : Nat} {R : World → List Value → α → Prop} {a : Option Addr} {n cap i : Nat} {l : List α} (h : Sl w k R (.slice a n cap) l) (hi : i ≤ n) : Sl w k R (.slice a i cap) (l.take i) := by
  obtain ⟨a', cap', hv, h1, h2, h3⟩ := h
  simp only [Value.slice.injEq] at hv
  obtain ⟨rfl, rfl, rfl⟩ := hv
  have hl : (l.take i).length = i := by rw [List.length_take]; omega
  refine ⟨a, cap, by rw [hl], by omega, h2, fun j hj => ?_⟩
  have hj' : j < l.length := by omega
  obtain ⟨b, o, cs, ha, hlc, hc, hr⟩ := h3 j hj'
  exact ⟨b, o, cs, ha, hlc, hc, by rw [List.getElem_take]; exact hr⟩
theorem Sl.len {α : Type} {w : World} {k : Nat} {R : World → List Value → α → Prop} {a : Option Addr} {n cap : Nat} {l : List α} (h : Sl w k R (.slice a n cap) l) : l.length = n := by
  obtain ⟨a', cap', hv, h1, h2, h3⟩ := h
  simp only [Value.slice.injEq] at hv
  exact hv.2.1.symm
end Bx
/- part C15 -/
namespace Bx
open Go Go.RowKit
theorem actAt_take {acts : List Acn} {k : Nat} {i : Int} (h0 : 0 ≤ i) (h : i < k) : actAt (acts.take k) i = actAt acts i := by
  unfold actAt
  rw [List.getD_eq_getElem?_getD, List.getD_eq_getElem?_getD, List.getElem?_take, if_pos (by omega)]
theorem doF_take {c : Crew} {acts : List Acn} {k : Nat} {j : Int} {x : Acn} {st : Rm} (hd : 1 ≤ x.dw ∧ x.dw ≤ 6) (h : x.dw = 5 ∨ x.dw = 6 → 0 ≤ x.what ∧ x.what < k) : doF c (acts.take k) j x st = doF c acts j x st := by
  by_cases h5 : x.dw = 5 ∨ x.dw = 6
  · have e := actAt_take (acts := acts) (h h5).1 (h h5).2
    have e1 : ∀ st, confE c (acts.take k) x st = confE c acts x st := fun st => by unfold confE; rw [e]
    have e2 : ∀ st, cancE c (acts.take k) x st = cancE c acts x st := fun st => by unfold cancE; rw [e]
    have e3 : ∀ st, confirmF c (acts.take k) j x st = confirmF c acts j x st := fun st => by unfold confirmF; rw [e1, e]
    have e4 : ∀ st, cancelF c (acts.take k) x st = cancelF c acts x st := fun st => by unfold cancelF; rw [e2]
    unfold doF doneF
    rw [e3, e4]
  · unfold doF doneF
    by_cases h1 : x.dw = 1
    · simp only [h1, if_pos]
    by_cases h2 : x.dw = 2
    · simp only [h2]; rfl
    by_cases h3 : x.dw = 3
    · simp only [h3]; rfl
    have h4 : x.dw = 4 := by omega
    simp only [h4]; rfl
theorem actOk_what {c : Crew} {j : Nat} {x : Acn} (h : ActOk c j x) : x.dw = 5 ∨ x.dw = 6 → 0 ≤ x.what ∧ x.what < j := fun hd => by
  have := h.what
  rw [show manyA c j x = j by unfold manyA; rw [if_neg (by omega), if_pos hd]] at this
  exact this
theorem plN_take {c : Crew} {acts : List Acn} (hall : ∀ (j : Nat) y, acts[j]? = some y → ActOk c j y) {k : Nat} (hk : k ≤ acts.length) : ∀ j, j ≤ k → plN c (acts.take k) j = plN c acts j
  | 0, _ => rfl
  | j + 1, hj => by
    have hx := List.getElem?_eq_getElem (show j < acts.length by omega)
    have hx' : (acts.take k)[j]? = some acts[j] := by rw [List.getElem?_take, if_pos (by omega)]; exact hx
    have ha := hall j _ hx
    rw [plN_succ hx, plN_succ hx', plN_take hall hk j (by omega), doF_take ha.dw (fun h => by have := actOk_what ha h; omega)]
theorem firstA_take {c : Crew} : ∀ (l : List Acn) (i : Int) (k : Nat), firstA c l i = 0 → firstA c (l.take k) i = 0
  | [], _, k, _ => by simp [firstA]
  | a :: l, i, 0, _ => rfl
  | a :: l, i, k + 1, h => by
    unfold firstA at h
    split at h
    · rename_i h1; exact absurd h h1
    · rename_i h1
      rw [List.take_succ_cons, firstA, if_neg h1]
      exact firstA_take l (i + 1) k h
theorem playE_take {c : Crew} {acts : List Acn} (h : playE c acts = 0) (k : Nat) : playE c (acts.take k) = 0 := by
  unfold playE at h ⊢
  split at h
  · rename_i h1; exact absurd h h1
  split at h
  · cases h
  · rename_i h1 h2
    rw [if_neg h1, if_neg (by rw [List.length_take]; omega)]
    exact firstA_take acts 0 k h
/-- What an act adds to the orders that took effect. -/
theorem doF_grow (c : Crew) (acts : List Acn) (k : Int) (x : Acn) (st : Rm) : (doF c acts k x st).2.ords = st.ords ∨ ∃ o, (doF c acts k x st).2.ords = st.ords ++ [o] ∧ (o.giv = k ∨ o.conf = k) := by
  unfold doF
  split
  · exact .inl rfl
  split
  · exact .inl rfl
  unfold doneF
  split
  · unfold takeF; split <;> exact .inl rfl
  split
  · unfold giveF; split <;> exact .inl rfl
  split
  · unfold giveF; split <;> exact .inl rfl
  split
  · unfold orderF
    simp only []
    split
    · exact .inl rfl
    split
    · exact .inl rfl
    split
    · exact .inl rfl
    · exact .inr ⟨_, rfl, .inl rfl⟩
  split
  · unfold confirmF
    split
    · exact .inl rfl
    · exact .inr ⟨_, rfl, .inr rfl⟩
  · unfold cancelF; split <;> exact .inl rfl
theorem plN_grow {c : Crew} {acts : List Acn} (k : Nat) : ∀ d : Nat, k + d ≤ acts.length → (∃ q, (plN c acts (k + d)).1 = (plN c acts k).1 ++ q) ∧ ∃ r, (plN c acts (k + d)).2.ords = (plN c acts k).2.ords ++ r ∧ ∀ o ∈ r, (k : Int) ≤ o.giv ∨ (k : Int) ≤ o.conf
  | 0, _ => ⟨⟨[], by simp⟩, [], by simp, fun o ho => (List.not_mem_nil ho).elim⟩
  | d + 1, hd => by
    obtain ⟨⟨q, hq⟩, r, hr, hb⟩ := plN_grow (c := c) (acts := acts) k d (by omega)
    have hx := List.getElem?_eq_getElem (show k + d < acts.length by omega)
    rw [show k + (d + 1) = k + d + 1 by omega, plN_succ hx]
    refine ⟨⟨q ++ [(doF c acts ((k + d : Nat) : Int) acts[k + d] (plN c acts (k + d)).2).1], by rw [hq]; simp⟩, ?_⟩
    rcases doF_grow c acts ((k + d : Nat) : Int) acts[k + d] (plN c acts (k + d)).2 with h | ⟨o, h, ho⟩
    · exact ⟨r, by rw [h]; exact hr, hb⟩
    · refine ⟨r ++ [o], by rw [h, hr]; simp, fun o' ho' => ?_⟩
      rcases List.mem_append.1 ho' with h' | h'
      · exact hb o' h'
      · obtain rfl := List.mem_singleton.1 h'
        omega
theorem prefixed {c : Crew} {acts : List Acn} (h : playE c acts = 0) {k : Nat} (hk : k ≤ acts.length) :
    playE c (acts.take k) = 0 ∧ playL c (acts.take k) = (playL c acts).take k ∧ ∃ r, playO c acts = playO c (acts.take k) ++ r ∧ ∀ o ∈ r, (k : Int) ≤ max o.giv o.conf := by
  obtain ⟨hc, _, hall⟩ := play_ok h
  have h' := playE_take h k
  have hkk : k + (acts.length - k) ≤ acts.length := by omega
  have hl : (acts.take k).length = k := by rw [List.length_take]; omega
  have e : plN c (acts.take k) k = plN c acts k := plN_take hall hk k (Nat.le_refl _)
  obtain ⟨⟨q, hq⟩, r, hr, hb⟩ := plN_grow (c := c) (acts := acts) k (acts.length - k) hkk
  rw [show k + (acts.length - k) = acts.length by omega] at hq hr
  unfold playL playO
  rw [if_neg (not_not_intro h), if_neg (not_not_intro h'), if_neg (not_not_intro h), if_neg (not_not_intro h'), hl, e]
  refine ⟨h', ?_, r, hr, fun o ho => by have := hb o ho; omega⟩
  rw [hq, List.take_left' (plN_len c acts k)]
end Bx
/- part C16 -/
namespace Bx
open Go Go.RowKit
/-- What an act does to the keys. -/
inductive Mov (c : Crew) (x : Acn) (st : Rm) : Int × Rm → Prop
  | same {F : Int × Rm} (h : F.2.hold = st.hold) : Mov c x st F
  | moved {F : Int × Rm} (v : Int) (h : F.2.hold = st.hold.set x.what.toNat v) (h0 : F.1 = 0) (hd : x.dw = 1 ∨ x.dw = 2 ∨ x.dw = 3) (hw : holdAt st.hold x.what = x.who ∨ holdAt st.hold x.what < 0 ∨ onB c (holdAt st.hold x.what) x.tm = false) : Mov c x st F
theorem doF_mov (c : Crew) (acts : List Acn) (k : Int) (x : Acn) (st : Rm) : Mov c x st (doF c acts k x st) := by
  unfold doF
  split
  · exact .same rfl
  split
  · exact .same rfl
  unfold doneF
  split
  · rename_i h1
    unfold takeF
    split
    · exact .same rfl
    · rename_i h2
      refine .moved x.who rfl rfl (.inl h1) ?_
      simp only [Bool.not_eq_false, Bool.or_eq_true, decide_eq_true_eq, Bool.not_eq_true'] at h2
      exact .inr h2
  split
  · rename_i h1
    unfold giveF
    split
    · exact .same rfl
    · rename_i h2
      exact .moved _ rfl rfl (.inr (.inl h1)) (.inl (Classical.not_not.1 h2))
  split
  · rename_i h1
    unfold giveF
    split
    · exact .same rfl
    · rename_i h2
      exact .moved _ rfl rfl (.inr (.inr h1)) (.inl (Classical.not_not.1 h2))
  split
  · unfold orderF
    simp only []
    split
    · exact .same rfl
    split
    · exact .same rfl
    split <;> exact .same rfl
  split
  · unfold confirmF; split <;> exact .same rfl
  · unfold cancelF; split <;> exact .same rfl
/-- The keys after the first k acts. -/
abbrev keysN (c : Crew) (acts : List Acn) (k : Nat) : List Int := (plN c acts k).2.hold
theorem playK_take {c : Crew} {acts : List Acn} (h : playE c acts = 0) {k : Nat} (hk : k ≤ acts.length) : playK c (acts.take k) = keysN c acts k := by
  obtain ⟨hc, _, hall⟩ := play_ok h
  unfold playK
  rw [if_neg (not_not_intro (playE_take h k)), show (acts.take k).length = k by rw [List.length_take]; omega, plN_take hall hk k (Nat.le_refl _)]
theorem keysN_ok {c : Crew} {acts : List Acn} (h : playE c acts = 0) {k : Nat} (hk : k ≤ acts.length) : (keysN c acts k).length = c.keys.length ∧ ∀ y ∈ keysN c acts k, -1 ≤ y ∧ y < c.ops.length := by
  obtain ⟨hc, _, hall⟩ := play_ok h
  obtain ⟨h1, _⟩ := plN_inv hc hall k hk
  exact ⟨h1.len, h1.hold⟩
theorem playL_len {c : Crew} {acts : List Acn} (h : playE c acts = 0) : (playL c acts).length = acts.length := by
  unfold playL; rw [if_neg (not_not_intro h), plN_len]
theorem playL_get {c : Crew} {acts : List Acn} (h : playE c acts = 0) {i : Nat} {x : Acn} (hx : acts[i]? = some x) : (playL c acts)[i]? = some (doF c acts i x (plN c acts i).2).1 := by
  have hi := (List.getElem?_eq_some_iff.1 hx).1
  obtain ⟨⟨q, hq⟩, _⟩ := plN_grow (c := c) (acts := acts) (i + 1) (acts.length - (i + 1)) (by omega)
  unfold playL
  rw [if_neg (not_not_intro h)]
  rw [show i + 1 + (acts.length - (i + 1)) = acts.length by omega, plN_succ hx] at hq
  rw [hq, List.append_assoc, List.getElem?_append_right (by rw [plN_len]; exact Nat.le_refl _), plN_len, Nat.sub_self]
  rfl
theorem key_moved {c : Crew} {acts : List Acn} (h : playE c acts = 0) {i k : Nat} {x : Acn} {y z : Int} (hx : acts[i]? = some x) (hy : (keysN c acts (i + 1))[k]? = some y) (hz : (keysN c acts i)[k]? = some z) (hne : y ≠ z) :
    (playL c acts)[i]? = some 0 ∧ x.what = k ∧ (x.dw = 1 ∨ x.dw = 2 ∨ x.dw = 3) ∧ (x.who = z ∨ z < 0 ∨ onB c z x.tm = false) := by
  obtain ⟨hc, _, hall⟩ := play_ok h
  have ha := hall i x hx
  rw [playL_get h hx]
  unfold keysN at hy
  rw [plN_succ hx] at hy
  cases doF_mov c acts i x (plN c acts i).2 with
  | same e => 
    exfalso
    simp only [e] at hy
    rw [show (plN c acts i).2.hold = keysN c acts i from rfl, hz] at hy
    exact hne (Option.some.inj hy).symm
  | moved v e h0 hd hw =>
    simp only [e] at hy
    have hkk : x.what.toNat = k := by
      apply Classical.byContradiction
      intro hn
      rw [List.getElem?_set_ne hn, show (plN c acts i).2.hold = keysN c acts i from rfl, hz] at hy
      exact hne (Option.some.inj hy).symm
    have h0w := ha.what.1
    have hat : holdAt (plN c acts i).2.hold x.what = z := by
      unfold holdAt
      rw [hkk]
      exact getD_hit hz
    rw [hat] at hw
    exact ⟨by rw [h0], by omega, hd, by rcases hw with hw | hw; exact .inl hw.symm; exact .inr hw⟩
/-! ### who fits -/
def fitsB (c : Crew) (who m g : Int) : Bool := decide ((onF c who m).2 = 0) && (onF c who m).1 && decide (0 ≤ who) && decide (who < c.ops.length) && decide (g ≤ gradeOf c who)
theorem onF_ok {c : Crew} {who m : Int} (hc : (checkC c).2.2 = 0) (hw : 0 ≤ who ∧ who < c.ops.length) (hm : 0 ≤ m ∧ m ≤ 100000) : onF c who m = (onB c who m, 0) := by
  have : onE c who m = 0 := by
    unfold onE
    rw [if_neg (not_not_intro hc), if_neg (by rw [Bool.not_eq_true, outB_false]; omega), if_neg (by rw [Bool.not_eq_true, neverB, outB_false]; exact hm)]
  unfold onF
  rw [if_neg (not_not_intro this)]
theorem fitsB_ok {c : Crew} {who m g : Int} (hc : (checkC c).2.2 = 0) (hw : 0 ≤ who ∧ who < c.ops.length) (hm : 0 ≤ m ∧ m ≤ 100000) : fitsB c who m g = (onB c who m && decide (g ≤ gradeOf c who)) := by
  unfold fitsB
  rw [onF_ok hc hw hm, decide_eq_true hw.1, decide_eq_true hw.2]
  simp
theorem playE_chk {c : Crew} {acts : List Acn} (h : playE c acts = 0) : (checkC c).2.2 = 0 := by
  unfold playE at h
  split at h
  · rename_i h1; exact absurd h h1
  · rename_i h1; exact Classical.not_not.1 h1
end Bx
/- part C17 -/
namespace Bx
open Go Go.RowKit
theorem idxI_one {a h : Int} : 0 ≤ idxI [a] h ↔ h = a := by
  unfold idxI idxF idxF
  by_cases e : h = a <;> simp [e]
theorem idxI_two {a b h : Int} : 0 ≤ idxI [a, b] h ↔ h = a ∨ h = b := by
  unfold idxI idxF idxF idxF
  by_cases e : h = a
  · simp [e]
  · by_cases e2 : h = b
    · simp only [decide_eq_true_eq, if_neg e, if_pos e2]
      exact ⟨fun _ => .inr e2, fun _ => by decide⟩
    · simp [e, e2]
theorem allH_one {hold ks : List Int} {a : Int} : allH hold [a] ks = true ↔ ∀ n ∈ ks, holdAt hold n = a := by
  unfold allH
  simp only [List.all_eq_true, decide_eq_true_eq, idxI_one]
theorem allH_two {hold ks : List Int} {a b : Int} : allH hold [a, b] ks = true ↔ ∀ n ∈ ks, holdAt hold n = a ∨ holdAt hold n = b := by
  unfold allH
  simp only [List.all_eq_true, decide_eq_true_eq, idxI_two]
theorem stepH_two (hold : List Int) (a b e0 e1 k : Int) : stepH hold [a, b] [e0, e1] k = if holdAt hold k = a then [e0 + 1, e1] else if holdAt hold k = b then [e0, e1 + 1] else [e0, e1] := by
  unfold stepH idxI idxF idxF idxF
  by_cases e : holdAt hold k = a
  · simp [e]
  · by_cases e2 : holdAt hold k = b
    · simp only [decide_eq_true_eq, if_neg e, if_pos e2]
      rfl
    · simp [e, e2]
def cntA (hold : List Int) (a : Int) (ks : List Int) : Nat := (ks.filter fun k => decide (holdAt hold k = a)).length
theorem foldH_two (hold : List Int) (a b : Int) (hne : a ≠ b) : ∀ (ks : List Int) (e0 e1 : Int), ks.foldl (stepH hold [a, b]) [e0, e1] = [e0 + cntA hold a ks, e1 + cntA hold b ks]
  | [], e0, e1 => by simp [cntA]
  | k :: ks, e0, e1 => by
    rw [List.foldl_cons, stepH_two]
    by_cases e : holdAt hold k = a
    · have e' : ¬ holdAt hold k = b := fun h => hne (e.symm.trans h)
      rw [if_pos e, foldH_two hold a b hne ks]
      have c1 : cntA hold a (k :: ks) = cntA hold a ks + 1 := by unfold cntA; rw [List.filter_cons_of_pos (by simpa using e)]; rfl
      have c2 : cntA hold b (k :: ks) = cntA hold b ks := by unfold cntA; rw [List.filter_cons_of_neg (by simpa using e')]
      rw [c1, c2, show e0 + 1 + (cntA hold a ks : Int) = e0 + ((cntA hold a ks + 1 : Nat) : Int) by omega]
    · rw [if_neg e]
      have c1 : cntA hold a (k :: ks) = cntA hold a ks := by unfold cntA; rw [List.filter_cons_of_neg (by simpa using e)]
      by_cases e2 : holdAt hold k = b
      · rw [if_pos e2, foldH_two hold a b hne ks]
        have c2 : cntA hold b (k :: ks) = cntA hold b ks + 1 := by unfold cntA; rw [List.filter_cons_of_pos (by simpa using e2)]; rfl
        rw [c1, c2, show e1 + 1 + (cntA hold b ks : Int) = e1 + ((cntA hold b ks + 1 : Nat) : Int) by omega]
      · rw [if_neg e2, foldH_two hold a b hne ks]
        have c2 : cntA hold b (k :: ks) = cntA hold b ks := by unfold cntA; rw [List.filter_cons_of_neg (by simpa using e2)]
        rw [c1, c2]
theorem cntA_pos {hold : List Int} {a : Int} {ks : List Int} : 0 < cntA hold a ks ↔ ∃ n ∈ ks, holdAt hold n = a := by
  unfold cntA
  rw [List.length_pos_iff_exists_mem]
  constructor
  · rintro ⟨n, hn⟩
    obtain ⟨h1, h2⟩ := List.mem_filter.1 hn
    exact ⟨n, h1, by simpa using h2⟩
  · rintro ⟨n, h1, h2⟩
    exact ⟨n, List.mem_filter.2 ⟨h1, by simpa using h2⟩⟩
theorem split_two {hold ks : List Int} {a b : Int} (hne : a ≠ b) : 0 < minL (foldH hold [a, b] ks) ↔ (∃ n ∈ ks, holdAt hold n = a) ∧ ∃ n ∈ ks, holdAt hold n = b := by
  have e : foldH hold [a, b] ks = [0 + (cntA hold a ks : Int), 0 + (cntA hold b ks : Int)] := foldH_two hold a b hne ks 0 0
  rw [e, ← cntA_pos, ← cntA_pos]
  show 0 < min _ _ ↔ _
  omega
/-! ### what a kind is -/
theorem kndAt_ok {c : Crew} (hc : CrewOk c) {i : Int} (h : 0 ≤ i ∧ i < c.kinds.length) : KndOk c.keys.length (kndAt c i) := by
  obtain ⟨k, rfl⟩ := Int.eq_ofNat_of_zero_le h.1
  have hx := List.getElem?_eq_getElem (show k < c.kinds.length by omega)
  rw [kndAt_hit rfl hx]
  exact kndOk_of (hc.kinds _ (List.mem_of_getElem? hx))
/-! ### the orders -/
structure GivOk (c : Crew) (acts : List Acn) (k : Int) (j : Int) : Prop where
  at_ : 0 ≤ j ∧ j < k
  dw : (actAt acts j).dw = 4
  what : 0 ≤ (actAt acts j).what ∧ (actAt acts j).what < c.kinds.length
  on : onB c (actAt acts j).who (actAt acts j).tm = true
  grade : (kndAt c (actAt acts j).what).grade ≤ gradeOf c (actAt acts j).who
theorem GivOk.up {c : Crew} {acts : List Acn} {k k' j : Int} (h : GivOk c acts k j) (hk : k ≤ k') : GivOk c acts k' j := ⟨⟨h.at_.1, by have := h.at_; omega⟩, h.dw, h.what, h.on, h.grade⟩
inductive ConfOk (c : Crew) (acts : List Acn) (k : Int) (o : Ord) : Prop
  | one (h0 : (kndAt c o.kind).second = 0) (h1 : o.conf = -1) (h2 : o.tm = (actAt acts o.giv).tm) (h3 : ∀ n ∈ (kndAt c o.kind).keys, holdAt (keysN c acts o.giv.toNat) n = (actAt acts o.giv).who)
  | two (h0 : 0 < (kndAt c o.kind).second) (h1 : 0 ≤ o.conf ∧ o.conf < k) (h2 : o.tm = (actAt acts o.conf).tm) (h3 : (actAt acts o.conf).dw = 5) (h4 : (actAt acts o.conf).what = o.giv) (h5 : o.giv < o.conf)
      (h6 : (actAt acts o.conf).who ≠ (actAt acts o.giv).who) (h7 : onB c (actAt acts o.conf).who o.tm = true) (h8 : (kndAt c o.kind).second ≤ gradeOf c (actAt acts o.conf).who) (h9 : o.tm ≤ (actAt acts o.giv).tm + (kndAt c o.kind).within)
      (h10 : ∀ n ∈ (kndAt c o.kind).keys, holdAt (keysN c acts o.conf.toNat) n = (actAt acts o.conf).who ∨ holdAt (keysN c acts o.conf.toNat) n = (actAt acts o.giv).who)
      (h11 : (kndAt c o.kind).split = true → (∃ n ∈ (kndAt c o.kind).keys, holdAt (keysN c acts o.conf.toNat) n = (actAt acts o.conf).who) ∧ ∃ n ∈ (kndAt c o.kind).keys, holdAt (keysN c acts o.conf.toNat) n = (actAt acts o.giv).who)
structure OrdOk (c : Crew) (acts : List Acn) (k : Int) (o : Ord) : Prop where
  giv : GivOk c acts k o.giv
  kind : (actAt acts o.giv).what = o.kind
  subj : (actAt acts o.giv).subj = o.subj
  on : onB c (actAt acts o.giv).who o.tm = true
  conf : ConfOk c acts k o
theorem OrdOk.up {c : Crew} {acts : List Acn} {k k' : Int} {o : Ord} (h : OrdOk c acts k o) (hk : k ≤ k') : OrdOk c acts k' o :=
  ⟨h.giv.up hk, h.kind, h.subj, h.on, by
    cases h.conf with
    | one h0 h1 h2 h3 => exact .one h0 h1 h2 h3
    | two h0 h1 h2 h3 h4 h5 h6 h7 h8 h9 h10 h11 => exact .two h0 ⟨h1.1, by omega⟩ h2 h3 h4 h5 h6 h7 h8 h9 h10 h11⟩
structure TwoInv (c : Crew) (acts : List Acn) (k : Nat) (st : Rm) : Prop where
  opn : ∀ j ∈ st.opn, GivOk c acts k j ∧ 0 < (kndAt c (actAt acts j).what).second
  ords : ∀ o ∈ st.ords, OrdOk c acts k o ∧ o.tm ≤ st.now
  pair : st.ords.Pairwise fun a b => a.giv ≠ b.giv ∧ a.tm ≤ b.tm
theorem twoInv_mono {c : Crew} {acts : List Acn} {k : Nat} {st st' : Rm} (h : TwoInv c acts k st) (h1 : ∀ j ∈ st'.opn, j ∈ st.opn) (h2 : st'.ords = st.ords) (h3 : st.now ≤ st'.now) : TwoInv c acts (k + 1) st' :=
  ⟨fun j hj => ⟨(h.opn j (h1 j hj)).1.up (by omega), (h.opn j (h1 j hj)).2⟩, fun o ho => by rw [h2] at ho; exact ⟨(h.ords o ho).1.up (by omega), by have := (h.ords o ho).2; omega⟩, by rw [h2]; exact h.pair⟩
theorem twoInv_add {c : Crew} {acts : List Acn} {k : Nat} {st st' : Rm} {o : Ord} (h : TwoInv c acts k st) (h1 : ∀ j ∈ st'.opn, j ∈ st.opn) (h2 : st'.ords = st.ords ++ [o]) (h3 : st.now ≤ st'.now) (h4 : st'.now = o.tm) (h5 : ∀ o' ∈ st.ords, o'.giv ≠ o.giv) (ho : OrdOk c acts ((k + 1 : Nat) : Int) o) : TwoInv c acts (k + 1) st' := by
  refine ⟨fun j hj => ⟨(h.opn j (h1 j hj)).1.up (by omega), (h.opn j (h1 j hj)).2⟩, fun o' ho' => ?_, ?_⟩
  · rw [h2] at ho'
    rcases List.mem_append.1 ho' with ho' | ho'
    · exact ⟨(h.ords o' ho').1.up (by omega), by have := (h.ords o' ho').2; omega⟩
    · obtain rfl := List.mem_singleton.1 ho'
      exact ⟨ho, by omega⟩
  · rw [h2, List.pairwise_append]
    refine ⟨h.pair, List.pairwise_singleton _ _, fun a ha b hb => ?_⟩
    obtain rfl := List.mem_singleton.1 hb
    exact ⟨h5 a ha, by have := (h.ords a ha).2; omega⟩
theorem twoInv_step {c : Crew} {acts : List Acn} {k : Nat} {x : Acn} (hc : CrewOk c) (hr : RmOk c acts k (plN c acts k).2) (hci : CanInv acts k (plN c acts k).1 (plN c acts k).2) (h : TwoInv c acts k (plN c acts k).2) (hx : acts[k]? = some x) (hok : ActOk c k x) :
    TwoInv c acts (k + 1) (doF c acts k x (plN c acts k).2).2 := by
  have hxa := actAt_nat hx
  have hkeys : keysN c acts ((k : Int)).toNat = (plN c acts k).2.hold := rfl
  generalize (plN c acts k).1 = lk at hci
  generalize (plN c acts k).2 = st at hkeys hr hci h ⊢
  unfold doF
  split
  · exact twoInv_mono h (fun j hj => hj) rfl (Int.le_refl _)
  rename_i hnow
  have hnow : st.now ≤ x.tm := by omega
  split
  · exact twoInv_mono h (fun j hj => hj) rfl hnow
  rename_i hduty
  have hon : onB c x.who x.tm = true := by
    unfold dutyA at hduty
    simp only [Bool.not_eq_false, Bool.and_eq_true] at hduty
    exact hduty.1
  unfold doneF
  split
  · unfold takeF; split <;> exact twoInv_mono h (fun j hj => hj) rfl hnow
  split
  · unfold giveF; split <;> exact twoInv_mono h (fun j hj => hj) rfl hnow
  split
  · unfold giveF; split <;> exact twoInv_mono h (fun j hj => hj) rfl hnow
  split
  · rename_i h4
    have hwh := hok.what
    rw [show manyA c k x = c.kinds.length from if_pos h4] at hwh
    unfold orderF
    simp only []
    split
    · exact twoInv_mono h (fun j hj => hj) rfl hnow
    rename_i hgr
    have hG : GivOk c acts ((k + 1 : Nat) : Int) (k : Int) := ⟨by omega, by rw [hxa]; exact h4, by rw [hxa]; exact hwh, by rw [hxa]; exact hon, by rw [hxa]; omega⟩
    split
    · rename_i hs
      refine ⟨fun j hj => ?_, fun o ho => ⟨(h.ords o ho).1.up (by omega), by have := (h.ords o ho).2; show o.tm ≤ x.tm; omega⟩, h.pair⟩
      rcases List.mem_append.1 hj with hj | hj
      · exact ⟨(h.opn j hj).1.up (by omega), (h.opn j hj).2⟩
      · obtain rfl := List.mem_singleton.1 hj
        exact ⟨hG, by rw [hxa]; exact hs⟩
    split
    · exact twoInv_mono h (fun j hj => hj) rfl hnow
    · rename_i hs hal
      have hal : allH st.hold [x.who] (kndAt c x.what).keys = true := by simpa using hal
      have hko := kndAt_ok hc hwh
      refine twoInv_add (o := ⟨k, -1, x.what, x.subj, x.tm⟩) h (fun j hj => hj) rfl hnow rfl (fun o' ho' => ?_) ⟨hG, by rw [hxa], by rw [hxa], by rw [hxa]; exact hon, .one ?_ rfl (by rw [hxa]) (fun n hn => ?_)⟩
      · have := (hr.ords o' ho').1.2
        show o'.giv ≠ (k : Int)
        omega
      · have := hko.second; show (kndAt c x.what).second = 0; omega
      · rw [hxa]
        show holdAt (keysN c acts ((k : Int)).toNat) n = x.who
        rw [hkeys]
        exact allH_one.1 hal n hn
  split
  · rename_i h5
    unfold confirmF
    split
    · exact twoInv_mono h (fun j hj => hj) rfl hnow
    · rename_i h0
      have hce := Classical.not_not.1 h0
      have hm := confE_mem hce
      obtain ⟨hgo, hsec⟩ := h.opn _ hm
      have hm' : x.what ∈ st.opn := hm
      unfold confE at hce
      simp only [] at hce
      split at hce
      · cases hce
      split at hce
      · cases hce
      split at hce
      · cases hce
      split at hce
      · cases hce
      split at hce
      · cases hce
      split at hce
      · cases hce
      rename_i e1 e2 e3 e4 e5 e6
      simp only [Bool.not_eq_false, Bool.and_eq_true, Bool.or_eq_true, Bool.not_eq_true', decide_eq_true_eq] at e6
      have hne : x.who ≠ (actAt acts x.what).who := e3
      refine twoInv_add (o := ⟨x.what, k, (actAt acts x.what).what, (actAt acts x.what).subj, x.tm⟩) h (fun j hj => List.mem_of_mem_erase hj) rfl hnow rfl (fun o' ho' e => ?_) ⟨hgo.up (by omega), rfl, rfl, ?_, .two ?_ ?_ ?_ ?_ ?_ ?_ ?_ ?_ ?_ ?_ (fun n hn => ?_) (fun hs => ?_)⟩
      · exact hci.ap o' ho' (by rw [e]; exact hm')
      · simpa using e5
      · exact hsec
      · show (0 : Int) ≤ (k : Int) ∧ (k : Int) < _; omega
      · show x.tm = (actAt acts (k : Int)).tm; rw [hxa]
      · show (actAt acts (k : Int)).dw = 5; rw [hxa]; exact h5
      · show (actAt acts (k : Int)).what = x.what; rw [hxa]
      · have := hgo.at_; show x.what < (k : Int); omega
      · show (actAt acts (k : Int)).who ≠ _; rw [hxa]; exact hne
      · show onB c (actAt acts (k : Int)).who x.tm = true; rw [hxa]; exact hon
      · show (kndAt c (actAt acts x.what).what).second ≤ gradeOf c (actAt acts (k : Int)).who; rw [hxa]; omega
      · show x.tm ≤ (actAt acts x.what).tm + (kndAt c (actAt acts x.what).what).within; omega
      · show holdAt (keysN c acts ((k : Int)).toNat) n = (actAt acts (k : Int)).who ∨ holdAt (keysN c acts ((k : Int)).toNat) n = _
        rw [hxa, hkeys]
        exact allH_two.1 e6.1 n hn
      · show (∃ n ∈ _, holdAt (keysN c acts ((k : Int)).toNat) n = (actAt acts (k : Int)).who) ∧ ∃ n ∈ _, holdAt (keysN c acts ((k : Int)).toNat) n = _
        rw [hxa, hkeys]
        refine (split_two hne).1 ?_
        rcases e6.2 with e | e
        · have hs' : (kndAt c (actAt acts x.what).what).split = true := hs
          rw [hs'] at e; cases e
        · exact e
  · unfold cancelF
    split
    · exact twoInv_mono h (fun j hj => hj) rfl hnow
    · exact twoInv_mono h (fun j hj => List.mem_of_mem_erase hj) rfl hnow
theorem plN_two {c : Crew} {acts : List Acn} (hc : CrewOk c) (hall : ∀ (j : Nat) y, acts[j]? = some y → ActOk c j y) : ∀ k, k ≤ acts.length → TwoInv c acts k (plN c acts k).2
  | 0, _ => ⟨fun j hj => (List.not_mem_nil hj).elim, fun o ho => (List.not_mem_nil ho).elim, List.Pairwise.nil⟩
  | k + 1, hk => by
    have h1 := plN_two hc hall k (by omega)
    obtain ⟨h2, h3⟩ := plN_inv hc hall k (by omega)
    have hx := List.getElem?_eq_getElem (show k < acts.length by omega)
    rw [plN_succ hx]
    exact twoInv_step hc h2 h3 h1 hx (hall k _ hx)
theorem two_ok {c : Crew} {acts : List Acn} (h : playE c acts = 0) : (∀ o ∈ playO c acts, OrdOk c acts acts.length o) ∧ (playO c acts).Pairwise fun a b => a.giv ≠ b.giv ∧ a.tm ≤ b.tm := by
  obtain ⟨hc, _, hall⟩ := play_ok h
  have hi := plN_two hc hall acts.length (Nat.le_refl _)
  unfold playO
  rw [if_neg (not_not_intro h)]
  exact ⟨fun o ho => (hi.ords o ho).1, hi.pair⟩
end Bx
/- part C18 -/
namespace Bx
open Go Go.RowKit
theorem ops_at {c : Crew} {w : World} {a : Option Addr} {cap : Nat} (h : Sl w 3 ROpr (.slice a c.ops.length cap) c.ops) (i : Int) : ∃ b o dv, (0 ≤ i ∧ i < c.ops.length) → a = some ⟨b, o, none⟩ ∧ Cells w b (o + i.toNat * 3) [.string (oprAt c i).name, .int .i64 (gradeOf c i), dv] := by
  by_cases hi : 0 ≤ i ∧ i < c.ops.length
  · obtain ⟨a', cap', hv, h1, h2, h3⟩ := h
    simp only [Value.slice.injEq] at hv
    obtain ⟨rfl, -, rfl⟩ := hv
    obtain ⟨k, rfl⟩ := Int.eq_ofNat_of_zero_le hi.1
    obtain ⟨b, o, cs, ha, -, hc, dv, rfl, -⟩ := h3 k (by omega)
    have hx : oprAt c (k : Int) = c.ops[k]'(by omega) := by unfold oprAt; rw [Int.toNat_natCast, getD_hit (List.getElem?_eq_getElem (by omega))]
    refine ⟨b, o, dv, fun _ => ⟨ha, ?_⟩⟩
    unfold gradeOf
    rw [hx, Int.toNat_natCast]
    exact hc
  · exact ⟨0, 0, .bool false, fun h => absurd h hi⟩
instance : DecidableEq Ord := fun a b => by
  cases a; cases b
  simp only [Ord.mk.injEq]
  infer_instance
def ROrd (_ : World) (cs : List Value) (o : Ord) : Prop := cs = ordC o ∧ True
theorem ROrd.stays : Stays ROrd := fun _ _ _ _ _ h => h
theorem sl_ords {w : World} {e : TypeId} {v : Value} {n : Nat} {l : List Ord} (h : w.ownsRow 0 e 5 v n (l.flatMap ordC)) (hn : l.length = n) : Sl w 5 ROrd v l := by
  subst hn
  exact row_sl ordC_len h (fun _ _ => trivial)
theorem row_cap {w : World} {e : TypeId} {k n cap : Nat} {a : Option Addr} {xs : List Value} (h : w.ownsRow 0 e k (.slice a n cap) n xs) : n ≤ cap := by
  rcases h.2 with ⟨hv, h0⟩ | ⟨g, c, cur, hv, _, _, hc, _⟩
  · omega
  · simp only [Value.slice.injEq] at hv
    omega
theorem rep_flatI (n : Nat) : (List.replicate n [Value.int .i64 0]).flatten = (List.replicate n (0 : Int)).flatMap encI := by
  induction n with
  | zero => rfl
  | succ n ih => rw [List.replicate_succ, List.replicate_succ, List.flatten_cons, List.flatMap_cons, ih]; rfl
theorem behind {α : Type} {l m r : List α} {i : Nat} {o : α} (h : l = m ++ r) (hi : m.length ≤ i) (ho : l[i]? = some o) : o ∈ r := by
  subst h
  rw [List.getElem?_append_right hi] at ho
  exact List.mem_of_getElem? ho
theorem fitsB_def (c : Crew) (who m g : Int) : ((((decide ((onF c who m).2 = 0) && (onF c who m).1) && decide (0 ≤ who)) && decide (who < c.ops.length)) && decide (g ≤ gradeOf c who)) = fitsB c who m g := rfl
end Bx
namespace Bx
open Go Go.RowKit
theorem fits_in {p q : Bool} {who n : Int} (g : (((p && q) && decide (0 ≤ who)) && decide (who < n)) = true) : 0 ≤ who ∧ who < n := by
  simp only [Bool.and_eq_true, decide_eq_true_eq] at g
  exact ⟨g.1.2, g.2⟩
def ErrOk (l : List Int) : Prop := ∀ y ∈ l, 0 ≤ y ∧ y ≤ 1000
abbrev EB (e : Int) : Prop := 0 ≤ e ∧ e ≤ 1000
theorem confE_bd (c : Crew) (acts : List Acn) (x : Acn) (st : Rm) : EB (confE c acts x st) := by
  unfold confE
  simp only []
  repeat' split
  all_goals decide
theorem cancE_bd (c : Crew) (acts : List Acn) (x : Acn) (st : Rm) : EB (cancE c acts x st) := by
  unfold cancE
  repeat' split
  all_goals decide
theorem doF_err (c : Crew) (acts : List Acn) (k : Int) (x : Acn) (st : Rm) : EB (doF c acts k x st).1 := by
  unfold doF
  split
  · show EB 200; decide
  split
  · show EB 201; decide
  unfold doneF
  split
  · unfold takeF; split
    · show EB 202; decide
    · show EB 0; decide
  split
  · unfold giveF; split
    · show EB 202; decide
    · show EB 0; decide
  split
  · unfold giveF; split
    · show EB 202; decide
    · show EB 0; decide
  split
  · unfold orderF
    simp only []
    split
    · show EB 203; decide
    split
    · show EB 0; decide
    split
    · show EB 202; decide
    · show EB 0; decide
  split
  · unfold confirmF
    split
    · exact confE_bd ..
    · show EB 0; decide
  · unfold cancelF
    split
    · exact cancE_bd ..
    · show EB 0; decide
theorem plN_err (c : Crew) (acts : List Acn) : ∀ k, ErrOk (plN c acts k).1
  | 0 => fun y hy => (List.not_mem_nil hy).elim
  | k + 1 => fun y hy => by
    rcases List.mem_append.1 hy with h | h
    · exact plN_err c acts k y h
    · rw [List.mem_singleton.1 h]; exact doF_err _ _ _ _ _
theorem playL_bd (c : Crew) (acts : List Acn) : ∀ y ∈ playL c acts, I64 y := by
  unfold playL
  split
  · intro y hy; exact (List.not_mem_nil hy).elim
  · intro y hy; have := plN_err c acts _ y hy; exact ⟨by omega, by omega⟩
end Bx
namespace Bx
open Go Go.RowKit
theorem fitsB_on {c : Crew} {who m g : Int} (h : fitsB c who m g = true) : onB c who m = true := by
  unfold fitsB at h
  simp only [Bool.and_eq_true, decide_eq_true_eq] at h
  have h1 := h.1.1.1
  unfold onF at h1
  split at h1
  · cases h1.2
  · exact h1.2
theorem keys0 {c : Crew} {acts : List Acn} {l : List Int} {n k : Nat} (hn : n = c.keys.length) (hl : l.length = n) (hk : n ≤ k) (h : ∀ i, i < n → l[i]? = some (if i < k then (-1 : Int) else 0)) : l = keysN c acts 0 := by
  refine eq_of_get (by show l.length = (List.replicate c.keys.length (-1 : Int)).length; simp; omega) (fun i hi => ?_)
  rw [h i (by omega), if_pos (by omega)]
  show _ = (List.replicate c.keys.length (-1 : Int))[i]?
  rw [List.getElem?_replicate, if_pos (by omega)]
end Bx
namespace Bx
open Go Go.RowKit
/-- All that is known of an order that took effect: the act that gave it, its kind, the last act that it needed. -/
structure TwoF (c : Crew) (acts : List Acn) (o : Ord) (g : Acn) (x : Knd) (s : Acn) (gi ki at_ : Nat) : Prop where
  hgi : o.giv = gi
  hki : o.kind = ki
  hat : max o.giv o.conf = at_
  hg : acts[gi]? = some g
  hs : acts[at_]? = some s
  hx : c.kinds[ki]? = some x
  dw : g.dw = 4
  what : g.what = o.kind
  subj : g.subj = o.subj
  tm : s.tm = o.tm
  f1 : fitsB c g.who g.tm x.grade = true
  f2 : fitsB c g.who o.tm 0 = true
  one : x.second = 0 ↔ o.conf = -1
  two : 0 < x.second → s.dw = 5 ∧ s.what = o.giv ∧ s.who ≠ g.who ∧ fitsB c s.who o.tm x.second = true ∧ o.tm - g.tm ≤ x.within
  keys : ∀ n ∈ x.keys, (0 ≤ n ∧ n < c.keys.length) ∧ (holdAt (keysN c acts at_) n = g.who ∨ holdAt (keysN c acts at_) n = if 0 < x.second then s.who else g.who)
  split : x.split = true → (∃ n ∈ x.keys, holdAt (keysN c acts at_) n = g.who) ∧ ∃ n ∈ x.keys, holdAt (keysN c acts at_) n = if 0 < x.second then s.who else g.who
theorem two_facts {c : Crew} {acts : List Acn} (h : playE c acts = 0) {o : Ord} (ho : o ∈ playO c acts) : ∃ g x s gi ki at_, TwoF c acts o g x s gi ki at_ := by
  obtain ⟨hc, _, hall⟩ := play_ok h
  have hk0 := playE_chk h
  have hO := (two_ok h).1 o ho
  have hG := hO.giv
  have hkd : 0 ≤ o.kind ∧ o.kind < c.kinds.length := by rw [← hO.kind]; exact hG.what
  obtain ⟨gi, hgi⟩ := Int.eq_ofNat_of_zero_le hG.at_.1
  obtain ⟨ki, hki⟩ := Int.eq_ofNat_of_zero_le hkd.1
  have hgl : gi < acts.length := by have := hG.at_.2; omega
  have hg := List.getElem?_eq_getElem hgl
  have hx := List.getElem?_eq_getElem (show ki < c.kinds.length by omega)
  have eg : actAt acts o.giv = acts[gi] := by rw [hgi]; exact actAt_nat hg
  have ex : kndAt c o.kind = c.kinds[ki]'(by omega) := by rw [hki]; exact kndAt_hit rfl hx
  have hko := kndAt_ok hc hkd
  have hag := hall gi _ hg
  have hoff : fitsB c acts[gi].who acts[gi].tm (c.kinds[ki]'(by omega)).grade = true := by
    rw [fitsB_ok hk0 hag.who hag.tm, Bool.and_eq_true, decide_eq_true_eq, ← eg, ← ex]
    refine ⟨hG.on, ?_⟩
    have := hG.grade
    rw [hO.kind] at this
    exact this
  have hgr0 : (0 : Int) ≤ gradeOf c acts[gi].who := by
    have h1 := hG.grade
    rw [hO.kind, eg] at h1
    have := hko.grade
    omega
  cases hO.conf with
  | one h0 h1 h2 h3 =>
    rw [ex] at h0
    have htm : acts[gi].tm = o.tm := by rw [h2, eg]
    refine ⟨acts[gi], c.kinds[ki]'(by omega), acts[gi], gi, ki, gi, hgi, hki, by rw [h1]; omega, hg, hg, hx, by rw [← eg]; exact hG.dw, by rw [← eg]; exact hO.kind, by rw [← eg]; exact hO.subj, htm, hoff, ?_, ⟨fun _ => h1, fun _ => h0⟩, fun hp => by omega, fun n hn => ?_, fun hs => ?_⟩
    · rw [fitsB_ok hk0 hag.who (by rw [← htm]; exact hag.tm), Bool.and_eq_true, decide_eq_true_eq, ← htm]
      exact ⟨by have := hG.on; rw [eg] at this; exact this, hgr0⟩
    · rw [ex, eg, hgi] at h3
      rw [ex] at hko
      exact ⟨hko.keys n hn, .inl (h3 n hn)⟩
    · rw [ex] at hko
      exact absurd h0 (hko.split hs).1
  | two h0 h1 h2 h3 h4 h5 h6 h7 h8 h9 h10 h11 =>
    obtain ⟨ci, hci⟩ := Int.eq_ofNat_of_zero_le h1.1
    have hcl : ci < acts.length := by omega
    have hs := List.getElem?_eq_getElem hcl
    have es : actAt acts o.conf = acts[ci] := by rw [hci]; exact actAt_nat hs
    have has := hall ci _ hs
    rw [ex] at h0 h8 h9 h10 h11 hko
    rw [es] at h2 h3 h4 h6 h7 h8 h10 h11
    rw [eg] at h6 h9 h10 h11
    rw [hci, Int.toNat_natCast] at h10 h11
    have htm : 0 ≤ o.tm ∧ o.tm ≤ 100000 := by rw [h2]; exact has.tm
    refine ⟨acts[gi], c.kinds[ki]'(by omega), acts[ci], gi, ki, ci, hgi, hki, by omega, hg, hs, hx, by rw [← eg]; exact hG.dw, by rw [← eg]; exact hO.kind, by rw [← eg]; exact hO.subj, h2.symm, hoff, ?_, ⟨fun e => by omega, fun e => by omega⟩, fun _ => ⟨h3, h4, h6, ?_, by omega⟩, fun n hn => ⟨hko.keys n hn, ?_⟩, fun hs => ?_⟩
    · rw [fitsB_ok hk0 hag.who htm, Bool.and_eq_true, decide_eq_true_eq]
      exact ⟨by have := hO.on; rw [eg] at this; exact this, hgr0⟩
    · rw [fitsB_ok hk0 has.who htm, Bool.and_eq_true, decide_eq_true_eq]
      exact ⟨h7, h8⟩
    · rw [if_pos h0]
      exact (h10 n hn).symm
    · rw [if_pos h0]
      exact ⟨(h11 hs).2, (h11 hs).1⟩
end Bx
/- part Ck28 -/
namespace Go.Proofs.Ytghgnofilbnbaaa
open Go Bx
set_option maxHeartbeats 1000000 in
/-- barrage/barragelaw10.fits -/
theorem c_fits {c : Crew} {cs : List Value} {who m g0 : Int} {w0 : World} (h : RCrew w0 cs c) : CV Try.prog 31 #[.agg cs.toArray, .int .i64 who, .int .i64 m, .int .i64 g0] w0 (.bool (fitsB c who m g0)) := by
  obtain ⟨ov, kv, nv, rfl, hso, hsk, hsn, hrm⟩ := id h
  obtain ⟨a, cap, rfl, hcap, hmx, hel⟩ := id hso
  obtain ⟨bq, oq, dq, hq⟩ := ops_at hso who
  refine enter Try.func31 rfl Try.ntmps31 rfl ?_
  have hS := St.start w0
  refine seq ?_
  refine region ?_
  refine sbox hS rfl rfl ?_; clear hS; intro b4 w hS
  refine sv (yAsg rfl) ?_
  refine nil ?_
  show Code.wp _ _ _ _ _
  refine seq ?_
  refine region ?_
  refine sv (yLdBA rfl Try.isAgg26 Try.sizeOf26 (hS.at _) rfl rfl) ?_
  refine sv (yMove rfl) ?_
  refine sv (yMove rfl) ?_
  refine scall Try.call33 (.cons rfl (.cons rfl (.cons rfl .nil))) (c_On (h.ext hS.ext)) ?_
  rintro _ w ⟨rfl, hE⟩; replace hS := hS.step hE; clear hE
  refine sv (yMove rfl) ?_
  refine sv (yExt rfl rfl) ?_
  refine sv (yExt rfl rfl) ?_
  refine sv (yAsg rfl) ?_
  refine sv (yAsg rfl) ?_
  refine nil ?_
  show Code.wp _ _ _ _ _
  refine seq ?_
  refine region ?_
  refine sv (yMove rfl) ?_
  refine sv (yEql rfl rfl) ?_
  refine sv (yMove rfl) ?_
  refine sg rfl rfl rfl (fun g => (yMove rfl)) (fun v21 g21 => ?_)
  refine sv (yAnd rfl (fun hB => (g21.1 hB)) rfl) ?_
  refine sv (yMove rfl) ?_
  refine sg rfl rfl rfl (fun g => (yMove rfl)) (fun v24 g24 => ?_)
  refine sg rfl rfl rfl (fun g => (yGeq (g24.1 g) rfl)) (fun v25 g25 => ?_)
  refine sv (yAnd rfl (fun hB => (g25.1 hB)) rfl) ?_
  refine sv (yMove rfl) ?_
  refine sg rfl rfl rfl (fun g => (yMove rfl)) (fun v28 g28 => ?_)
  refine sg rfl rfl rfl (fun g => (fa26_0 rfl)) (fun v29 g29 => ?_)
  refine sg rfl rfl rfl (fun g => (yLdB (g29.1 g) Try.isAgg22 (hS.at _) rfl)) (fun v30 g30 => ?_)
  refine sg rfl rfl rfl (fun g => (yLen (g30.1 g) Try.underlying22)) (fun v31 g31 => ?_)
  refine sg rfl rfl rfl (fun g => (yLss (g28.1 g) (g31.1 g))) (fun v32 g32 => ?_)
  refine sv (yAnd rfl (fun hB => (g32.1 hB)) rfl) ?_
  refine sv (yMove rfl) ?_
  refine sg rfl rfl rfl (fun g => (fa26_0 rfl)) (fun v35 g35 => ?_)
  refine sg rfl rfl rfl (fun g => (yLdB (g35.1 g) Try.isAgg22 (hS.at _) rfl)) (fun v36 g36 => ?_)
  refine sg rfl rfl rfl (fun g => (yMove rfl)) (fun v37 g37 => ?_)
  refine sg rfl rfl rfl (fun g => (have hi := fits_in g; yIxa (g36.1 g) (hq hi).1 (g37.1 g) Try.runUnderlying22 Try.sizeOf42 (by omega) (by omega))) (fun v38 g38 => ?_)
  refine sg rfl rfl rfl (fun g => (fa42_1 (g38.1 g))) (fun v39 g39 => ?_)
  refine sg rfl rfl rfl (fun g => (yLd (g39.1 g) Try.isAgg3 (((hq (fits_in g)).2.ext hS.ext).at (j := 1) rfl))) (fun v40 g40 => ?_)
  refine sg rfl rfl rfl (fun g => (yMove rfl)) (fun v41 g41 => ?_)
  refine sg rfl rfl rfl (fun g => (yGeq (g40.1 g) (g41.1 g))) (fun v42 g42 => ?_)
  refine sv (yAnd rfl (fun hB => (g42.1 hB)) rfl) ?_
  refine sv (yAsg rfl) ?_
  refine nil ?_
  show Code.wp _ _ _ _ _
  refine wp_ret ?_
  exact retV (res1 rfl rfl) hS.ext
/-- barrage/barragelaw10.orders -/
theorem c_orders {la lb : List Ord} {va vb : Value} {w0 : World} (ha : Sl w0 5 ROrd va la) (hb : Sl w0 5 ROrd vb lb) : CV Try.prog 22 #[va, vb] w0 (.bool (decide (la = lb))) := by
  obtain ⟨aa, ca, rfl, hca, hma, hela⟩ := ha
  obtain ⟨ab, cb, rfl, hcb, hmb, helb⟩ := hb
  refine enter Try.func22 rfl Try.ntmps22 rfl ?_
  have hS := St.start w0
  refine seq ?_
  refine region ?_
  refine sv (yAsg rfl) ?_
  refine nil ?_
  show Code.wp _ _ _ _ _
  refine seq ?_
  refine seq ?_
  refine region ?_
  refine sv (yMove rfl) ?_
  refine sv (yLen rfl Try.underlying46) ?_
  refine sv (yMove rfl) ?_
  refine sv (yLen rfl Try.underlying46) ?_
  refine sv (yNeq rfl rfl) ?_
  refine nil ?_
  show Code.wp _ _ _ _ _
  refine cond rfl (fun c10 => ?_) (fun c10 => ?_)
  ·
    simp only [Bool.and_eq_true, Bool.or_eq_true, Bool.and_eq_false_iff, Bool.or_eq_false_iff, decide_eq_true_eq, decide_eq_false_iff_not, Bool.not_eq_true, Bool.not_eq_false, Bool.not_not, Bool.not_eq_eq_eq_not, Bool.not_true, Bool.not_false, Bool.false_eq_true, Bool.true_eq_false, ne_eq, Decidable.not_not, not_false_eq_true, not_true_eq_false] at c10
    refine seq ?_
    refine region ?_
    refine sv (yAsg rfl) ?_
    refine nil ?_
    show Code.wp _ _ _ _ _
    refine wp_ret (thenR ?_)
    exact retV (res1 rfl (eqB (by rw [decide_eq_false (fun h => by rw [h] at c10; exact c10 rfl)]))) hS.ext
  ·
    simp only [Bool.and_eq_true, Bool.or_eq_true, Bool.and_eq_false_iff, Bool.or_eq_false_iff, decide_eq_true_eq, decide_eq_false_iff_not, Bool.not_eq_true, Bool.not_eq_false, Bool.not_not, Bool.not_eq_eq_eq_not, Bool.not_true, Bool.not_false, Bool.false_eq_true, Bool.true_eq_false, ne_eq, Decidable.not_not, not_false_eq_true, not_true_eq_false] at c10
    refine skip ?_
    show Code.wp _ _ _ _ _
    refine seq ?_
    refine seq ?_
    refine region ?_
    refine sv (yAsg rfl) ?_
    refine nil ?_
    show Code.wp _ _ _ _ _
    refine block ?_
    refine loop (fun f w zz => ∃ (k : Nat), f 0 = .slice aa la.length ca ∧ f 1 = .slice ab lb.length cb ∧ f 5 = .int .i64 (k : Int) ∧ StX [] w0 w [] ∧ (k ≤ la.length) ∧ (∀ i, i < k → la[i]? = lb[i]?) ∧ zz = la.length - k) _ ⟨_, rfl, 0, rfl, rfl, rfl, hS, (Nat.zero_le _), (fun i hi => absurd hi (Nat.not_lt_zero i)), rfl⟩ ?_
    clear hS
    rintro f w _ ⟨k, h0, h1, h5, hS, hk, hI, rfl⟩
    refine seq ?_
    refine seq ?_
    refine region ?_
    refine sv (yMove h5) ?_
    refine sv (yMove h0) ?_
    refine sv (yLen rfl Try.underlying46) ?_
    refine sv (yLss rfl rfl) ?_
    refine nil ?_
    show Code.wp _ _ _ _ _
    refine cond rfl (fun c14 => ?_) (fun c14 => ?_)
    ·
      simp only [Bool.and_eq_true, Bool.or_eq_true, Bool.and_eq_false_iff, Bool.or_eq_false_iff, decide_eq_true_eq, decide_eq_false_iff_not, Bool.not_eq_true, Bool.not_eq_false, Bool.not_not, Bool.not_eq_eq_eq_not, Bool.not_true, Bool.not_false, Bool.false_eq_true, Bool.true_eq_false, ne_eq, Decidable.not_not, not_false_eq_true, not_true_eq_false] at c14
      obtain ⟨x, hx, hd⟩ := drop_of (l := la) (k := k) (by omega)
      obtain ⟨b, o, cs, ha, hlen, hcs, hR⟩ := hela (k) (by omega)
      obtain rfl : x = la[k] := (List.getElem?_eq_some_iff.1 hx).2.symm
      generalize la[k] = x at hx hd hR
      obtain ⟨rfl, _⟩ := hR
      obtain ⟨y, hxq, hdq⟩ := drop_of (l := lb) (k := k) (by omega)
      obtain ⟨bq, oq, csq, haq, hlenq, hcsq, hRq⟩ := helb (k) (by omega)
      obtain rfl : y = lb[k] := (List.getElem?_eq_some_iff.1 hxq).2.symm
      generalize lb[k] = y at hxq hdq hRq
      obtain ⟨rfl, _⟩ := hRq
      refine skip ?_
      show Code.wp _ _ _ _ _
      refine seq ?_
      refine block ?_
      refine seq ?_
      refine region_draw mixed (by kernel_rfl) hS ?_
      refine qv (fun w hS => (yMove h0)) ?_
      refine qv (fun w hS => (yMove h5)) ?_
      refine qv (fun w hS => (yIxa rfl ha rfl Try.runUnderlying46 Try.sizeOf55 (by omega) (by omega))) ?_
      refine qv (fun w hS => (yLdA rfl Try.isAgg55 Try.sizeOf55 (hcs.ext hS.ext) rfl)) ?_
      refine qv (fun w hS => (yMove h1)) ?_
      refine qv (fun w hS => (yMove h5)) ?_
      refine qv (fun w hS => (yIxa rfl haq rfl Try.runUnderlying46 Try.sizeOf55 (by omega) (by omega))) ?_
      refine qv (fun w hS => (yLdA rfl Try.isAgg55 Try.sizeOf55 (hcsq.ext hS.ext) rfl)) ?_
      refine qv (fun w hS => (neS55 rfl rfl)) ?_
      clear hS; refine qnil (fun w hS => ?_)
      show Code.wp _ _ _ _ _
      refine cond rfl (fun c25 => ?_) (fun c25 => ?_)
      ·
        skip
        have hne : x ≠ y := fun h => by subst h; simp at c25
        refine seq ?_
        refine region ?_
        refine sv (yAsg rfl) ?_
        refine nil ?_
        show Code.wp _ _ _ _ _
        refine wp_ret (blockR (thenR (thenR (blockR (thenR ?_)))))
        exact retV (res1 rfl (eqB (by rw [decide_eq_false (ne_of_get hx hxq hne)]))) hS.ext
      ·
        skip
        have hxy : x = y := by cases x; cases y; simp at c25; simp [c25]
        refine skip ?_
        show Code.wp _ _ _ _ _
        refine region ?_
        refine sv (yMove h5) ?_
        refine sv (yAdd rfl rfl ⟨by omega, by omega⟩) ?_
        refine sv (yAsg rfl) ?_
        refine nil ?_
        exact ⟨_, _, rfl, ⟨k + 1, h0, h1, rfl, hS, (by omega), (snoc hI (by rw [hx, hxq, hxy])), rfl⟩, by omega⟩
    ·
      simp only [Bool.and_eq_true, Bool.or_eq_true, Bool.and_eq_false_iff, Bool.or_eq_false_iff, decide_eq_true_eq, decide_eq_false_iff_not, Bool.not_eq_true, Bool.not_eq_false, Bool.not_not, Bool.not_eq_eq_eq_not, Bool.not_true, Bool.not_false, Bool.false_eq_true, Bool.true_eq_false, ne_eq, Decidable.not_not, not_false_eq_true, not_true_eq_false] at c14
      refine exit ?_
      show Code.wp _ _ _ _ _
      refine seq ?_
      refine region ?_
      refine sv (yAsg rfl) ?_
      refine nil ?_
      show Code.wp _ _ _ _ _
      refine wp_ret ?_
      exact retV (res1 rfl (eqB (by rw [decide_eq_true (eq_of_get (by omega) (fun i hi => hI i (by omega)))]))) hS.ext
end Go.Proofs.Ytghgnofilbnbaaa
/- part Ck30 -/
namespace Go.Proofs.Ytghgnofilbnbaaa
open Go Bx
set_option maxHeartbeats 4000000 in
/-- barrage/barragelaw10.CrewKeys -/
theorem w_CrewKeys {c : Crew} {cs : List Value} {acts : List Acn} {av : Value} {w0 : World} (h : RCrew w0 cs c) (ha : Sl w0 6 RAct av acts) : CV Try.prog 9 #[.agg cs.toArray, av] w0 (.bool true) := by
  obtain ⟨ov, kv, nv, rfl, hso, hsk, hsn, hrm⟩ := id h
  obtain ⟨a, cap, rfl, hcap, hmx, hel⟩ := id hso
  obtain ⟨ak, ck, rfl, hkcap, hkmx, -⟩ := id hsk
  obtain ⟨an, cn, rfl, hncap, hnmx, heln⟩ := id hsn
  obtain ⟨aa, ca, rfl, hacap, hamx, hela⟩ := id ha
  refine enter Try.func9 rfl Try.ntmps9 rfl ?_
  have hS := St.start w0
  refine seq ?_
  refine region ?_
  refine sbox hS rfl rfl ?_; clear hS; intro b2 w hS
  refine sv (yAsg rfl) ?_
  refine nil ?_
  show Code.wp _ _ _ _ _
  refine seq ?_
  refine region ?_
  refine sv (yLdBA rfl Try.isAgg26 Try.sizeOf26 (hS.at _) rfl rfl) ?_
  refine sv (yMove rfl) ?_
  refine scall Try.call20 (.cons rfl (.cons rfl .nil)) (c_Play (h.ext hS.ext) (ha.ext RAct.stays hS.ext)) ?_
  rintro _ w ⟨lv, rfl, hM⟩; replace hS := hS.call1 hM; clear hM
  obtain ⟨al, cl, rfl⟩ := row_shape (hS.row lv)
  refine sv (yMove rfl) ?_
  refine sv (yExt rfl rfl) ?_
  refine sv (yExt rfl rfl) ?_
  refine sv (yAsg rfl) ?_
  refine sv (yAsg rfl) ?_
  refine nil ?_
  show Code.wp _ _ _ _ _
  refine seq ?_
  refine seq ?_
  refine region ?_
  refine sv (yMove rfl) ?_
  refine sv (yNeq rfl rfl) ?_
  refine nil ?_
  show Code.wp _ _ _ _ _
  refine cond rfl (fun c21 => ?_) (fun c21 => ?_)
  ·
    simp only [Bool.and_eq_true, Bool.or_eq_true, Bool.and_eq_false_iff, Bool.or_eq_false_iff, decide_eq_true_eq, decide_eq_false_iff_not, Bool.not_eq_true, Bool.not_eq_false, Bool.not_not, Bool.not_eq_eq_eq_not, Bool.not_true, Bool.not_false, Bool.false_eq_true, Bool.true_eq_false, ne_eq, Decidable.not_not, not_false_eq_true, not_true_eq_false] at c21
    refine seq ?_
    refine region ?_
    refine sv (yMove rfl) ?_
    refine sv (yLen rfl Try.underlying49) ?_
    refine sv (yEql rfl rfl) ?_
    refine sv (yMove rfl) ?_
    refine sgc hS rfl rfl rfl Try.call18 (fun g => .nil) (fun g => c_Awake) ?_; clear hS; intro v26 w hS g26
    refine sv (yAnd rfl (fun hB => (g26.1 hB)) rfl) ?_
    refine sv (yAsg rfl) ?_
    refine nil ?_
    show Code.wp _ _ _ _ _
    refine wp_ret (thenR ?_)
    exact retV (res1 rfl (eqB (by rw [playL_bad c21]; rfl))) hS.ext
  ·
    simp only [Bool.and_eq_true, Bool.or_eq_true, Bool.and_eq_false_iff, Bool.or_eq_false_iff, decide_eq_true_eq, decide_eq_false_iff_not, Bool.not_eq_true, Bool.not_eq_false, Bool.not_not, Bool.not_eq_eq_eq_not, Bool.not_true, Bool.not_false, Bool.false_eq_true, Bool.true_eq_false, ne_eq, Decidable.not_not, not_false_eq_true, not_true_eq_false] at c21
    have hE : playE c acts = 0 := c21
    have hll := playL_len hE
    obtain ⟨hc9, hn60, hall9⟩ := play_ok hE
    have hnk := hc9.nkeys
    refine skip ?_
    show Code.wp _ _ _ _ _
    refine seq ?_
    refine seq ?_
    refine region ?_
    refine sv (yMove rfl) ?_
    refine sv (yLen rfl Try.underlying49) ?_
    refine sv (yMove rfl) ?_
    refine sv (yLen rfl Try.underlying37) ?_
    refine sv (yNeq rfl rfl) ?_
    refine nil ?_
    show Code.wp _ _ _ _ _
    refine cond rfl (fun c32 => ?_) (fun c32 => ?_)
    ·
      simp only [Bool.and_eq_true, Bool.or_eq_true, Bool.and_eq_false_iff, Bool.or_eq_false_iff, decide_eq_true_eq, decide_eq_false_iff_not, Bool.not_eq_true, Bool.not_eq_false, Bool.not_not, Bool.not_eq_eq_eq_not, Bool.not_true, Bool.not_false, Bool.false_eq_true, Bool.true_eq_false, ne_eq, Decidable.not_not, not_false_eq_true, not_true_eq_false] at c32
      exfalso; omega
    ·
      simp only [Bool.and_eq_true, Bool.or_eq_true, Bool.and_eq_false_iff, Bool.or_eq_false_iff, decide_eq_true_eq, decide_eq_false_iff_not, Bool.not_eq_true, Bool.not_eq_false, Bool.not_not, Bool.not_eq_eq_eq_not, Bool.not_true, Bool.not_false, Bool.false_eq_true, Bool.true_eq_false, ne_eq, Decidable.not_not, not_false_eq_true, not_true_eq_false] at c32
      refine skip ?_
      show Code.wp _ _ _ _ _
      refine seq ?_
      refine region ?_
      refine sv (fa26_1 rfl) ?_
      refine sv (yLdB rfl Try.isAgg23 (hS.at _) rfl) ?_
      refine sv (yLen rfl Try.underlying23) ?_
      refine smake (bytes := 8) (zs := [.int .i64 0]) (m := c.keys.length) hS rfl rfl Try.underlying30 ti3 rfl rfl rfl rfl rfl (by omega) (by omega) ?_; clear hS; intro b36 w hS
      refine sv (yAsg rfl) ?_
      refine nil ?_
      show Code.wp _ _ _ _ _
      refine seq ?_
      refine seq ?_
      refine region ?_
      rw [rep_flatI] at hS
      refine sv (yAsg rfl) ?_
      refine nil ?_
      show Code.wp _ _ _ _ _
      refine block ?_
      refine loop (fun f w zz => ∃ (k : Nat) (l : List Int), f 1 = .slice aa acts.length ca ∧ f 2 = .pointer (some ⟨b2, 0, none⟩) ∧ f 5 = .slice al (playL c acts).length cl ∧ f 7 = .slice (some ⟨b36, 0, none⟩) c.keys.length c.keys.length ∧ f 8 = .int .i64 (k : Int) ∧ StX [] w0 w [blk b36 (l.flatMap Bx.encI) 3, rowI (.slice al (playL c acts).length cl) 31 1 (playL c acts).length ((playL c acts).flatMap Bx.encI), blk b2 [.slice a c.ops.length cap, .slice ak c.keys.length ck, .slice an c.kinds.length cn] 26] ∧ (k ≤ c.keys.length) ∧ (l.length = c.keys.length) ∧ (∀ i, i < c.keys.length → l[i]? = some (if i < k then (-1 : Int) else 0)) ∧ zz = c.keys.length - k) _ ⟨_, rfl, 0, _, rfl, rfl, rfl, rfl, rfl, hS, (Nat.zero_le _), (List.length_replicate), (fun i hi => by simp [hi]), rfl⟩ ?_
      clear hS
      rintro f w _ ⟨k, l, h1, h2, h5, h7, h8, hS, hk, hl, hrow, rfl⟩
      refine seq ?_
      refine seq ?_
      refine region ?_
      refine sv (yMove h8) ?_
      refine sv (yMove h7) ?_
      refine sv (yLen rfl Try.underlying30) ?_
      refine sv (yLss rfl rfl) ?_
      refine nil ?_
      show Code.wp _ _ _ _ _
      refine cond rfl (fun c40 => ?_) (fun c40 => ?_)
      ·
        simp only [Bool.and_eq_true, Bool.or_eq_true, Bool.and_eq_false_iff, Bool.or_eq_false_iff, decide_eq_true_eq, decide_eq_false_iff_not, Bool.not_eq_true, Bool.not_eq_false, Bool.not_not, Bool.not_eq_eq_eq_not, Bool.not_true, Bool.not_false, Bool.false_eq_true, Bool.true_eq_false, ne_eq, Decidable.not_not, not_false_eq_true, not_true_eq_false] at c40
        refine skip ?_
        show Code.wp _ _ _ _ _
        refine seq ?_
        refine block ?_
        refine region ?_
        refine sv (yMove h7) ?_
        refine sv (yMove h8) ?_
        refine sv (yIx0 rfl rfl Try.runUnderlying30 Try.sizeOf3 (by omega)) ?_
        refine sst hS rfl rfl Try.sizeOf3 rfl rfl (by rw [Nat.ble_eq, flatI_len]; omega) rfl ?_; clear hS; intro w hS
        refine nil ?_
        show Code.wp _ _ _ _ _
        refine region ?_
        refine sv (yMove h8) ?_
        refine sv (yAdd rfl rfl ⟨by omega, by omega⟩) ?_
        refine sv (yAsg rfl) ?_
        refine nil ?_
        exact ⟨_, _, rfl, ⟨k + 1, l.set k (-1), h1, h2, h5, h7, rfl, (by rw [← splice_enc encI_len l k _ (by omega)]; exact hS), (by omega), (by simpa using hl), (set_get (A := fun _ => (-1 : Int)) (B := fun _ => (0 : Int)) hl (by omega) rfl hrow), rfl⟩, by omega⟩
      ·
        simp only [Bool.and_eq_true, Bool.or_eq_true, Bool.and_eq_false_iff, Bool.or_eq_false_iff, decide_eq_true_eq, decide_eq_false_iff_not, Bool.not_eq_true, Bool.not_eq_false, Bool.not_not, Bool.not_eq_eq_eq_not, Bool.not_true, Bool.not_false, Bool.false_eq_true, Bool.true_eq_false, ne_eq, Decidable.not_not, not_false_eq_true, not_true_eq_false] at c40
        refine exit ?_
        show Code.wp _ _ _ _ _
        refine seq ?_
        refine seq ?_
        refine region ?_
        refine sv (yAsg rfl) ?_
        refine nil ?_
        show Code.wp _ _ _ _ _
        refine block ?_
        obtain rfl := keys0 (acts := acts) rfl hl (by omega) hrow
        replace hS := hS.toRow 1 c.keys.length (by rw [flatI_len, hl]; omega) (by omega)
        refine loop (fun f w zz => ∃ (i : Nat) (ab : Option Addr) (cb : Nat), f 1 = .slice aa acts.length ca ∧ f 2 = .pointer (some ⟨b2, 0, none⟩) ∧ f 5 = .slice al (playL c acts).length cl ∧ f 7 = .slice ab c.keys.length cb ∧ f 9 = .int .i64 (i : Int) ∧ StX [] w0 w [rowI (.slice ab c.keys.length cb) 3 1 c.keys.length ((keysN c acts i).flatMap Bx.encI), rowI (.slice al (playL c acts).length cl) 31 1 (playL c acts).length ((playL c acts).flatMap Bx.encI), blk b2 [.slice a c.ops.length cap, .slice ak c.keys.length ck, .slice an c.kinds.length cn] 26] ∧ (i ≤ acts.length) ∧ zz = acts.length - i) _ ⟨_, rfl, 0, _, _, h1, h2, h5, h7, rfl, hS, (Nat.zero_le _), rfl⟩ ?_
        clear hS
        rintro f w _ ⟨i, ab, cb, h1, h2, h5, h7, h9, hS, hi, rfl⟩
        refine seq ?_
        refine seq ?_
        refine region ?_
        refine sv (yMove h9) ?_
        refine sv (yMove h1) ?_
        refine sv (yLen rfl Try.underlying37) ?_
        refine sv (yLss rfl rfl) ?_
        refine nil ?_
        show Code.wp _ _ _ _ _
        refine cond rfl (fun c49 => ?_) (fun c49 => ?_)
        ·
          simp only [Bool.and_eq_true, Bool.or_eq_true, Bool.and_eq_false_iff, Bool.or_eq_false_iff, decide_eq_true_eq, decide_eq_false_iff_not, Bool.not_eq_true, Bool.not_eq_false, Bool.not_not, Bool.not_eq_eq_eq_not, Bool.not_true, Bool.not_false, Bool.false_eq_true, Bool.true_eq_false, ne_eq, Decidable.not_not, not_false_eq_true, not_true_eq_false] at c49
          refine skip ?_
          show Code.wp _ _ _ _ _
          refine seq ?_
          refine block ?_
          refine seq ?_
          refine region_mix (fun w => w.heap[b2]? = some (.cells ([.slice a c.ops.length cap, .slice ak c.keys.length ck, .slice an c.kinds.length cn] : List Value).toArray 26 (0, 0))) 11 mixed hS ?_
          clear hS; intro w hS
          refine f_step 0 (by kernel_rfl) rfl (fun c a a' w h => by obtain ⟨_, v, hv, _⟩ := h; cases hv) (hS.at b2) (fun w hS => (yLdBA h2 Try.isAgg26 Try.sizeOf26 hS rfl rfl)) ?_
          refine f_step 1 (by kernel_rfl) rfl (fun c a a' w h => by obtain ⟨_, v, hv, _⟩ := h; cases hv) (hS.at b2) (fun w hS => (yMove h1)) ?_
          refine f_step 2 (by kernel_rfl) rfl (fun c a a' w h => by obtain ⟨_, v, hv, _⟩ := h; cases hv) (hS.at b2) (fun w hS => (yMove h9)) ?_
          refine f_step 3 (by kernel_rfl) rfl (fun c a a' w h => by obtain ⟨_, v, hv, _⟩ := h; cases hv) (hS.at b2) (fun w hS => (yAdd rfl rfl ⟨by omega, by omega⟩)) ?_
          refine f_step 4 (by kernel_rfl) rfl (fun c a a' w h => by obtain ⟨_, v, hv, _⟩ := h; cases hv) (hS.at b2) (fun w hS => (yTo rfl (rfl.trans (congrArg (Value.int .i64) (show (i : Int) + 1 = ((i + 1 : Nat) : Int) by omega))) Try.underlying37 Try.sizeOf53 (by omega))) ?_
          show wpA _ _ _ _ _ _ _ _ _ _
          refine a_step (i := 5) (is := []) (by kernel_rfl) ⟨?_, trivial⟩
          refine ⟨_, rfl, ?_⟩
          refine scall Try.call30 (.cons rfl (.cons rfl .nil)) (c_Keys (h.ext hS.ext) ((ha.take (i := i + 1) (by omega)).ext RAct.stays hS.ext)) ?_
          rintro _ w ⟨kv2, rfl, hM⟩; rw [playE_take hE]; rw [playK_take hE (k := i + 1) (by omega), (keysN_ok hE (k := i + 1) (by omega)).1] at hM; replace hS := hS.call1 hM; clear hM
          obtain ⟨ac, cc, rfl⟩ := row_shape (hS.row kv2)
          refine nil ?_
          refine ⟨fun _ => (hS.at b2), ?_⟩
          show wpA _ _ _ _ _ _ _ _ _ _
          refine f_step 6 (by kernel_rfl) rfl (fun c a a' w h => by obtain ⟨_, v, hv, _⟩ := h; cases hv) (hS.at b2) (fun w hS => (yMove rfl)) ?_
          refine f_step 7 (by kernel_rfl) rfl (fun c a a' w h => by obtain ⟨_, v, hv, _⟩ := h; cases hv) (hS.at b2) (fun w hS => (yExt rfl rfl)) ?_
          refine f_step 8 (by kernel_rfl) rfl (fun c a a' w h => by obtain ⟨_, v, hv, _⟩ := h; cases hv) (hS.at b2) (fun w hS => (yExt rfl rfl)) ?_
          refine f_step 9 (by kernel_rfl) rfl (fun c a a' w h => by obtain ⟨_, v, hv, _⟩ := h; cases hv) (hS.at b2) (fun w hS => (yAsg rfl)) ?_
          refine f_step 10 (by kernel_rfl) rfl (fun c a a' w h => by obtain ⟨_, v, hv, _⟩ := h; cases hv) (hS.at b2) (fun w hS => (yAsg rfl)) ?_
          refine a_end (by kernel_rfl) ?_
          show Code.wp _ _ _ _ _
          refine seq ?_
          refine seq ?_
          refine region ?_
          refine sv (yMove rfl) ?_
          refine sv (yNeq rfl rfl) ?_
          refine sv (yMove rfl) ?_
          refine sg rfl rfl rfl (fun g => (yMove rfl)) (fun v64 g64 => ?_)
          refine sg rfl rfl rfl (fun g => (yLen (g64.1 g) Try.underlying30)) (fun v65 g65 => ?_)
          refine sg rfl rfl rfl (fun g => (yMove h7)) (fun v66 g66 => ?_)
          refine sg rfl rfl rfl (fun g => (yLen (g66.1 g) Try.underlying30)) (fun v67 g67 => ?_)
          refine sg rfl rfl rfl (fun g => (yNeq (g65.1 g) (g67.1 g))) (fun v68 g68 => ?_)
          refine sv (yOr rfl rfl (fun hB => (g68.1 hB))) ?_
          refine nil ?_
          show Code.wp _ _ _ _ _
          refine cond rfl (fun c69 => ?_) (fun c69 => ?_)
          ·
            simp only [Bool.and_eq_true, Bool.or_eq_true, Bool.and_eq_false_iff, Bool.or_eq_false_iff, decide_eq_true_eq, decide_eq_false_iff_not, Bool.not_eq_true, Bool.not_eq_false, Bool.not_not, Bool.not_eq_eq_eq_not, Bool.not_true, Bool.not_false, Bool.false_eq_true, Bool.true_eq_false, ne_eq, Decidable.not_not, not_false_eq_true, not_true_eq_false] at c69
            exfalso; simp at c69
          ·
            simp only [Bool.and_eq_true, Bool.or_eq_true, Bool.and_eq_false_iff, Bool.or_eq_false_iff, decide_eq_true_eq, decide_eq_false_iff_not, Bool.not_eq_true, Bool.not_eq_false, Bool.not_not, Bool.not_eq_eq_eq_not, Bool.not_true, Bool.not_false, Bool.false_eq_true, Bool.true_eq_false, ne_eq, Decidable.not_not, not_false_eq_true, not_true_eq_false] at c69
            refine skip ?_
            show Code.wp _ _ _ _ _
            refine seq ?_
            refine seq ?_
            refine region ?_
            refine sv (yAsg rfl) ?_
            refine nil ?_
            show Code.wp _ _ _ _ _
            refine block ?_
            refine loop (fun f w zz => ∃ (q : Nat), f 1 = .slice aa acts.length ca ∧ f 2 = .pointer (some ⟨b2, 0, none⟩) ∧ f 5 = .slice al (playL c acts).length cl ∧ f 7 = .slice ab c.keys.length cb ∧ f 9 = .int .i64 (i : Int) ∧ f 10 = .slice ac c.keys.length cc ∧ f 12 = .int .i64 (q : Int) ∧ StX [] w0 w [rowI (.slice ac c.keys.length cc) 3 1 c.keys.length ((keysN c acts (i + 1)).flatMap Bx.encI), rowI (.slice ab c.keys.length cb) 3 1 c.keys.length ((keysN c acts i).flatMap Bx.encI), rowI (.slice al (playL c acts).length cl) 31 1 (playL c acts).length ((playL c acts).flatMap Bx.encI), blk b2 [.slice a c.ops.length cap, .slice ak c.keys.length ck, .slice an c.kinds.length cn] 26] ∧ (q ≤ c.keys.length) ∧ zz = c.keys.length - q) _ ⟨_, rfl, 0, h1, h2, h5, h7, h9, rfl, rfl, hS, (Nat.zero_le _), rfl⟩ ?_
            clear hS
            rintro f w _ ⟨q, h1, h2, h5, h7, h9, h10, h12, hS, hq, rfl⟩
            refine seq ?_
            refine seq ?_
            refine region ?_
            refine sv (yMove h12) ?_
            refine sv (yMove h10) ?_
            refine sv (yLen rfl Try.underlying30) ?_
            refine sv (yLss rfl rfl) ?_
            refine nil ?_
            show Code.wp _ _ _ _ _
            refine cond rfl (fun c73 => ?_) (fun c73 => ?_)
            ·
              simp only [Bool.and_eq_true, Bool.or_eq_true, Bool.and_eq_false_iff, Bool.or_eq_false_iff, decide_eq_true_eq, decide_eq_false_iff_not, Bool.not_eq_true, Bool.not_eq_false, Bool.not_not, Bool.not_eq_eq_eq_not, Bool.not_true, Bool.not_false, Bool.false_eq_true, Bool.true_eq_false, ne_eq, Decidable.not_not, not_false_eq_true, not_true_eq_false] at c73
              refine skip ?_
              show Code.wp _ _ _ _ _
              refine seq ?_
              refine block ?_
              refine seq ?_
              refine seq ?_
              refine region_draw mixed (by kernel_rfl) hS ?_
              have hk1 := keysN_ok hE (show i + 1 ≤ acts.length by omega)
              have hk0 := keysN_ok hE (show i ≤ acts.length by omega)
              obtain ⟨y, hy, -⟩ := drop_of (l := keysN c acts (i + 1)) (k := q) (by omega)
              obtain ⟨z, hz, -⟩ := drop_of (l := keysN c acts i) (k := q) (by omega)
              have hyb := hk1.2 y (List.mem_of_getElem? hy)
              have hzb := hk0.2 z (List.mem_of_getElem? hz)
              obtain ⟨g1, rfl, -⟩ := row_get (hS.row (.slice ac c.keys.length cc)) (by omega)
              obtain ⟨g0, rfl, -⟩ := row_get (hS.row (.slice ab c.keys.length cb)) (by omega)
              refine qv (fun w hS => (yMove h10)) ?_
              refine qv (fun w hS => (yMove h12)) ?_
              refine qv (fun w hS => (yIx0 rfl rfl Try.runUnderlying30 Try.sizeOf3 (by omega))) ?_
              refine qv (fun w hS => (yLd rfl Try.isAgg3 ((flat_cells0 (enc := Bx.encI) encI_len (row_at (hS.row (.slice (some ⟨g1, 0, none⟩) c.keys.length cc)) rfl (by omega)) hy).one))) ?_
              refine qv (fun w hS => (yLss rfl rfl)) ?_
              refine qv (fun w hS => (yMove rfl)) ?_
              refine qg rfl rfl rfl (fun g w hS => (yMove h10)) (fun v82 g82 => ?_)
              refine qg rfl rfl rfl (fun g w hS => (yMove h12)) (fun v83 g83 => ?_)
              refine qg rfl rfl rfl (fun g w hS => (yIx0 (g82.1 g) (g83.1 g) Try.runUnderlying30 Try.sizeOf3 (by omega))) (fun v84 g84 => ?_)
              refine qg rfl rfl rfl (fun g w hS => (yLd (g84.1 g) Try.isAgg3 ((flat_cells0 (enc := Bx.encI) encI_len (row_at (hS.row (.slice (some ⟨g1, 0, none⟩) c.keys.length cc)) rfl (by omega)) hy).one))) (fun v85 g85 => ?_)
              refine qg rfl rfl rfl (fun g w hS => (fa26_0 h2)) (fun v86 g86 => ?_)
              refine qg rfl rfl rfl (fun g w hS => (yLdB (g86.1 g) Try.isAgg22 (hS.at _) rfl)) (fun v87 g87 => ?_)
              refine qg rfl rfl rfl (fun g w hS => (yLen (g87.1 g) Try.underlying22)) (fun v88 g88 => ?_)
              refine qg rfl rfl rfl (fun g w hS => (yGeq (g85.1 g) (g88.1 g))) (fun v89 g89 => ?_)
              refine qv (fun w hS => (yOr rfl rfl (fun hB => (g89.1 hB)))) ?_
              clear hS; refine qnil (fun w hS => ?_)
              show Code.wp _ _ _ _ _
              refine cond rfl (fun c90 => ?_) (fun c90 => ?_)
              ·
                simp only [Bool.and_eq_true, Bool.or_eq_true, Bool.and_eq_false_iff, Bool.or_eq_false_iff, decide_eq_true_eq, decide_eq_false_iff_not, Bool.not_eq_true, Bool.not_eq_false, Bool.not_not, Bool.not_eq_eq_eq_not, Bool.not_true, Bool.not_false, Bool.false_eq_true, Bool.true_eq_false, ne_eq, Decidable.not_not, not_false_eq_true, not_true_eq_false] at c90
                exfalso; omega
              ·
                simp only [Bool.and_eq_true, Bool.or_eq_true, Bool.and_eq_false_iff, Bool.or_eq_false_iff, decide_eq_true_eq, decide_eq_false_iff_not, Bool.not_eq_true, Bool.not_eq_false, Bool.not_not, Bool.not_eq_eq_eq_not, Bool.not_true, Bool.not_false, Bool.false_eq_true, Bool.true_eq_false, ne_eq, Decidable.not_not, not_false_eq_true, not_true_eq_false] at c90
                refine skip ?_
                show Code.wp _ _ _ _ _
                refine seq ?_
                refine seq ?_
                refine region_draw mixed (by kernel_rfl) hS ?_
                refine qv (fun w hS => (yMove h10)) ?_
                refine qv (fun w hS => (yMove h12)) ?_
                refine qv (fun w hS => (yIx0 rfl rfl Try.runUnderlying30 Try.sizeOf3 (by omega))) ?_
                refine qv (fun w hS => (yLd rfl Try.isAgg3 ((flat_cells0 (enc := Bx.encI) encI_len (row_at (hS.row (.slice (some ⟨g1, 0, none⟩) c.keys.length cc)) rfl (by omega)) hy).one))) ?_
                refine qv (fun w hS => (yMove h7)) ?_
                refine qv (fun w hS => (yMove h12)) ?_
                refine qv (fun w hS => (yIx0 rfl rfl Try.runUnderlying30 Try.sizeOf3 (by omega))) ?_
                refine qv (fun w hS => (yLd rfl Try.isAgg3 ((flat_cells0 (enc := Bx.encI) encI_len (row_at (hS.row (.slice (some ⟨g0, 0, none⟩) c.keys.length cb)) rfl (by omega)) hz).one))) ?_
                refine qv (fun w hS => (yEql rfl rfl)) ?_
                clear hS; refine qnil (fun w hS => ?_)
                show Code.wp _ _ _ _ _
                refine cond rfl (fun c99 => ?_) (fun c99 => ?_)
                ·
                  simp only [Bool.and_eq_true, Bool.or_eq_true, Bool.and_eq_false_iff, Bool.or_eq_false_iff, decide_eq_true_eq, decide_eq_false_iff_not, Bool.not_eq_true, Bool.not_eq_false, Bool.not_not, Bool.not_eq_eq_eq_not, Bool.not_true, Bool.not_false, Bool.false_eq_true, Bool.true_eq_false, ne_eq, Decidable.not_not, not_false_eq_true, not_true_eq_false] at c99
                  refine exit ?_
                  show Code.wp _ _ _ _ _
                  refine region ?_
                  refine sv (yMove h12) ?_
                  refine sv (yAdd rfl rfl ⟨by omega, by omega⟩) ?_
                  refine sv (yAsg rfl) ?_
                  refine nil ?_
                  exact ⟨_, _, rfl, ⟨q + 1, h1, h2, h5, h7, h9, h10, rfl, hS, (by omega), rfl⟩, by omega⟩
                ·
                  simp only [Bool.and_eq_true, Bool.or_eq_true, Bool.and_eq_false_iff, Bool.or_eq_false_iff, decide_eq_true_eq, decide_eq_false_iff_not, Bool.not_eq_true, Bool.not_eq_false, Bool.not_not, Bool.not_eq_eq_eq_not, Bool.not_true, Bool.not_false, Bool.false_eq_true, Bool.true_eq_false, ne_eq, Decidable.not_not, not_false_eq_true, not_true_eq_false] at c99
                  refine skip ?_
                  show Code.wp _ _ _ _ _
                  refine seq ?_
                  refine region ?_
                  obtain ⟨x, hxq, hdq⟩ := drop_of (l := acts) (k := i) (by omega)
                  obtain ⟨bq, oq, csq, haq, hlenq, hcsq, hRq⟩ := hela (i) (by omega)
                  obtain rfl : x = acts[i] := (List.getElem?_eq_some_iff.1 hxq).2.symm
                  generalize acts[i] = x at hxq hdq hRq
                  obtain ⟨rfl, hxi⟩ := hRq
                  obtain ⟨hw0, hwk, hwd, hww⟩ := key_moved hE hxq hy hz c99
                  refine sv (yMove h1) ?_
                  refine sv (yMove h9) ?_
                  refine sv (yIxa rfl haq rfl Try.runUnderlying37 Try.sizeOf53 (by omega) (by omega)) ?_
                  refine sv (yLdA rfl Try.isAgg53 Try.sizeOf53 (hcsq.ext hS.ext) rfl) ?_
                  refine salloc hS Try.zeroValue53 rfl ?_; clear hS; intro b13 w hS
                  refine sst hS rfl rfl Try.sizeOf53 rfl rfl rfl rfl ?_; clear hS; intro w hS
                  refine nil ?_
                  show Code.wp _ _ _ _ _
                  refine seq ?_
                  refine seq ?_
                  refine region ?_
                  obtain ⟨gl, rfl, -⟩ := row_get (hS.row (.slice al (playL c acts).length cl)) (by omega)
                  refine sv (yMove h5) ?_
                  refine sv (yMove h9) ?_
                  refine sv (yIx0 rfl rfl Try.runUnderlying49 Try.sizeOf31 (by omega)) ?_
                  refine sv (yLd rfl Try.isAgg31 ((flat_cells0 (enc := Bx.encI) encI_len (row_at (hS.row (.slice (some ⟨gl, 0, none⟩) (playL c acts).length cl)) rfl (by omega)) hw0).one)) ?_
                  refine sv (yNeq rfl rfl) ?_
                  refine sv (yMove rfl) ?_
                  refine sg rfl rfl rfl (fun g => (fa53_3 rfl)) (fun v110 g110 => ?_)
                  refine sg rfl rfl rfl (fun g => (yLdB (g110.1 g) Try.isAgg3 (hS.at _) rfl)) (fun v111 g111 => ?_)
                  refine sg rfl rfl rfl (fun g => (yMove h12)) (fun v112 g112 => ?_)
                  refine sg rfl rfl rfl (fun g => (yNeq (g111.1 g) (g112.1 g))) (fun v113 g113 => ?_)
                  refine sv (yOr rfl rfl (fun hB => (g113.1 hB))) ?_
                  refine sv (yMove rfl) ?_
                  refine sg rfl rfl rfl (fun g => (fa53_2 rfl)) (fun v116 g116 => ?_)
                  refine sg rfl rfl rfl (fun g => (yLdB (g116.1 g) Try.isAgg3 (hS.at _) rfl)) (fun v117 g117 => ?_)
                  refine sg rfl rfl rfl (fun g => (yNeq (g117.1 g) rfl)) (fun v118 g118 => ?_)
                  refine sg rfl rfl rfl (fun g => (yMove (g118.1 g))) (fun v119 g119 => ?_)
                  refine sgg rfl rfl g119 (fun g => (fa53_2 rfl)) (fun v120 g120 => ?_)
                  refine sgg rfl rfl g119 (fun g => (yLdB (g120.1 g) Try.isAgg3 (hS.at _) rfl)) (fun v121 g121 => ?_)
                  refine sgg rfl rfl g119 (fun g => (yNeq (g121.1 g) rfl)) (fun v122 g122 => ?_)
                  refine sg rfl rfl rfl (fun g => (yAnd (g119.1 g) (fun hB => (g122.1 ⟨g, hB⟩)) rfl)) (fun v123 g123 => ?_)
                  refine sg rfl rfl rfl (fun g => (yMove (g123.1 g))) (fun v124 g124 => ?_)
                  refine sgg rfl rfl g124 (fun g => (fa53_2 rfl)) (fun v125 g125 => ?_)
                  refine sgg rfl rfl g124 (fun g => (yLdB (g125.1 g) Try.isAgg3 (hS.at _) rfl)) (fun v126 g126 => ?_)
                  refine sgg rfl rfl g124 (fun g => (yNeq (g126.1 g) rfl)) (fun v127 g127 => ?_)
                  refine sg rfl rfl rfl (fun g => (yAnd (g124.1 g) (fun hB => (g127.1 ⟨g, hB⟩)) rfl)) (fun v128 g128 => ?_)
                  refine sv (yOr rfl rfl (fun hB => (g128.1 hB))) ?_
                  refine nil ?_
                  show Code.wp _ _ _ _ _
                  refine cond rfl (fun c129 => ?_) (fun c129 => ?_)
                  ·
                    simp only [Bool.and_eq_true, Bool.or_eq_true, Bool.and_eq_false_iff, Bool.or_eq_false_iff, decide_eq_true_eq, decide_eq_false_iff_not, Bool.not_eq_true, Bool.not_eq_false, Bool.not_not, Bool.not_eq_eq_eq_not, Bool.not_true, Bool.not_false, Bool.false_eq_true, Bool.true_eq_false, ne_eq, Decidable.not_not, not_false_eq_true, not_true_eq_false] at c129
                    exfalso
                    rcases c129 with (h1 | h1) | h1
                    · exact h1
                    · omega
                    · omega
                  ·
                    simp only [Bool.and_eq_true, Bool.or_eq_true, Bool.and_eq_false_iff, Bool.or_eq_false_iff, decide_eq_true_eq, decide_eq_false_iff_not, Bool.not_eq_true, Bool.not_eq_false, Bool.not_not, Bool.not_eq_eq_eq_not, Bool.not_true, Bool.not_false, Bool.false_eq_true, Bool.true_eq_false, ne_eq, Decidable.not_not, not_false_eq_true, not_true_eq_false] at c129
                    refine skip ?_
                    show Code.wp _ _ _ _ _
                    refine seq ?_
                    refine region_draw mixed (by kernel_rfl) hS ?_
                    refine qv (fun w hS => (yMove h7)) ?_
                    refine qv (fun w hS => (yMove h12)) ?_
                    refine qv (fun w hS => (yIx0 rfl rfl Try.runUnderlying30 Try.sizeOf3 (by omega))) ?_
                    refine qv (fun w hS => (yLd rfl Try.isAgg3 ((flat_cells0 (enc := Bx.encI) encI_len (row_at (hS.row (.slice (some ⟨g0, 0, none⟩) c.keys.length cb)) rfl (by omega)) hz).one))) ?_
                    refine qv (fun w hS => (yGeq rfl rfl)) ?_
                    refine qv (fun w hS => (yMove rfl)) ?_
                    refine qg rfl rfl rfl (fun g w hS => (fa53_1 rfl)) (fun v136 g136 => ?_)
                    refine qg rfl rfl rfl (fun g w hS => (yLdB (g136.1 g) Try.isAgg3 (hS.at _) rfl)) (fun v137 g137 => ?_)
                    refine qg rfl rfl rfl (fun g w hS => (yMove h7)) (fun v138 g138 => ?_)
                    refine qg rfl rfl rfl (fun g w hS => (yMove h12)) (fun v139 g139 => ?_)
                    refine qg rfl rfl rfl (fun g w hS => (yIx0 (g138.1 g) (g139.1 g) Try.runUnderlying30 Try.sizeOf3 (by omega))) (fun v140 g140 => ?_)
                    refine qg rfl rfl rfl (fun g w hS => (yLd (g140.1 g) Try.isAgg3 ((flat_cells0 (enc := Bx.encI) encI_len (row_at (hS.row (.slice (some ⟨g0, 0, none⟩) c.keys.length cb)) rfl (by omega)) hz).one))) (fun v141 g141 => ?_)
                    refine qg rfl rfl rfl (fun g w hS => (yNeq (g137.1 g) (g141.1 g))) (fun v142 g142 => ?_)
                    refine qv (fun w hS => (yAnd rfl (fun hB => (g142.1 hB)) rfl)) ?_
                    refine qv (fun w hS => (yMove rfl)) ?_
                    refine qg rfl rfl rfl (fun g w hS => (yLdBA h2 Try.isAgg26 Try.sizeOf26 (hS.at _) rfl rfl)) (fun v145 g145 => ?_)
                    refine qg rfl rfl rfl (fun g w hS => (yMove h7)) (fun v146 g146 => ?_)
                    refine qg rfl rfl rfl (fun g w hS => (yMove h12)) (fun v147 g147 => ?_)
                    refine qg rfl rfl rfl (fun g w hS => (yIx0 (g146.1 g) (g147.1 g) Try.runUnderlying30 Try.sizeOf3 (by omega))) (fun v148 g148 => ?_)
                    refine qg rfl rfl rfl (fun g w hS => (yLd (g148.1 g) Try.isAgg3 ((flat_cells0 (enc := Bx.encI) encI_len (row_at (hS.row (.slice (some ⟨g0, 0, none⟩) c.keys.length cb)) rfl (by omega)) hz).one))) (fun v149 g149 => ?_)
                    refine qg rfl rfl rfl (fun g w hS => (fa53_0 rfl)) (fun v150 g150 => ?_)
                    refine qg rfl rfl rfl (fun g w hS => (yLdB (g150.1 g) Try.isAgg3 (hS.at _) rfl)) (fun v151 g151 => ?_)
                    refine qgc rfl rfl rfl Try.call31 (fun g => (.cons (g145.1 g) (.cons (g149.1 g) (.cons (g151.1 g) (.cons rfl .nil))))) (fun g w hS => (c_fits (h.ext hS.ext))) (fun v152 g152 => ?_)
                    refine qv (fun w hS => (yAnd rfl (fun hB => (g152.1 hB)) rfl)) ?_
                    clear hS; refine qnil (fun w hS => ?_)
                    show Code.wp _ _ _ _ _
                    refine cond rfl (fun c153 => ?_) (fun c153 => ?_)
                    ·
                      simp only [Bool.and_eq_true, Bool.or_eq_true, Bool.and_eq_false_iff, Bool.or_eq_false_iff, decide_eq_true_eq, decide_eq_false_iff_not, Bool.not_eq_true, Bool.not_eq_false, Bool.not_not, Bool.not_eq_eq_eq_not, Bool.not_true, Bool.not_false, Bool.false_eq_true, Bool.true_eq_false, ne_eq, Decidable.not_not, not_false_eq_true, not_true_eq_false] at c153
                      exfalso
                      obtain ⟨⟨h1, h2⟩, h3⟩ := c153
                      have h4 := fitsB_on h3
                      rcases hww with hww | hww | hww
                      · exact h2 hww
                      · omega
                      · rw [hww] at h4; cases h4
                    ·
                      simp only [Bool.and_eq_true, Bool.or_eq_true, Bool.and_eq_false_iff, Bool.or_eq_false_iff, decide_eq_true_eq, decide_eq_false_iff_not, Bool.not_eq_true, Bool.not_eq_false, Bool.not_not, Bool.not_eq_eq_eq_not, Bool.not_true, Bool.not_false, Bool.false_eq_true, Bool.true_eq_false, ne_eq, Decidable.not_not, not_false_eq_true, not_true_eq_false] at c153
                      refine skip ?_
                      show Code.wp _ _ _ _ _
                      refine region ?_
                      refine sv (yMove h12) ?_
                      refine sv (yAdd rfl rfl ⟨by omega, by omega⟩) ?_
                      refine sv (yAsg rfl) ?_
                      refine nil ?_
                      exact ⟨_, _, rfl, ⟨q + 1, h1, h2, h5, h7, h9, h10, rfl, (hS.sub (.cons _ (List.Sublist.refl _))), (by omega), rfl⟩, by omega⟩
            ·
              simp only [Bool.and_eq_true, Bool.or_eq_true, Bool.and_eq_false_iff, Bool.or_eq_false_iff, decide_eq_true_eq, decide_eq_false_iff_not, Bool.not_eq_true, Bool.not_eq_false, Bool.not_not, Bool.not_eq_eq_eq_not, Bool.not_true, Bool.not_false, Bool.false_eq_true, Bool.true_eq_false, ne_eq, Decidable.not_not, not_false_eq_true, not_true_eq_false] at c73
              refine exit ?_
              show Code.wp _ _ _ _ _
              refine region ?_
              refine sv (yMove h10) ?_
              refine sv (yAsg rfl) ?_
              refine nil ?_
              show Code.wp _ _ _ _ _
              refine region ?_
              refine sv (yMove h9) ?_
              refine sv (yAdd rfl rfl ⟨by omega, by omega⟩) ?_
              refine sv (yAsg rfl) ?_
              refine nil ?_
              exact ⟨_, _, rfl, ⟨i + 1, _, _, h1, h2, h5, rfl, rfl, (hS.sub (.cons_cons _ (.cons _ (List.Sublist.refl _)))), (by omega), rfl⟩, by omega⟩
        ·
          simp only [Bool.and_eq_true, Bool.or_eq_true, Bool.and_eq_false_iff, Bool.or_eq_false_iff, decide_eq_true_eq, decide_eq_false_iff_not, Bool.not_eq_true, Bool.not_eq_false, Bool.not_not, Bool.not_eq_eq_eq_not, Bool.not_true, Bool.not_false, Bool.false_eq_true, Bool.true_eq_false, ne_eq, Decidable.not_not, not_false_eq_true, not_true_eq_false] at c49
          refine exit ?_
          show Code.wp _ _ _ _ _
          refine seq ?_
          refine region ?_
          refine scall Try.call18 .nil c_Awake ?_
          rintro _ w ⟨rfl, hE⟩; replace hS := hS.step hE; clear hE
          refine sv (yAsg rfl) ?_
          refine nil ?_
          show Code.wp _ _ _ _ _
          refine wp_ret ?_
          exact retV (res1 rfl rfl) hS.ext
end Go.Proofs.Ytghgnofilbnbaaa
/- part C19 -/
namespace Bx
open Go Go.RowKit
theorem pair_get {α : Type} {R : α → α → Prop} {l : List α} {i k : Nat} {u o : α} (h : l.Pairwise R) (hu : l[k]? = some u) (ho : l[i]? = some o) (hk : k < i) : R u o := by
  obtain ⟨h1, rfl⟩ := List.getElem?_eq_some_iff.1 hu
  obtain ⟨h2, rfl⟩ := List.getElem?_eq_some_iff.1 ho
  exact List.pairwise_iff_getElem.1 h k i h1 h2 hk
def anyH (hold : List Int) (a : Int) (ks : List Int) : Bool := ks.any fun k => decide (holdAt hold k = a)
theorem anyH_take {hold : List Int} {a y n : Int} {ks : List Int} {j : Nat} (h : ks[j]? = some n) (hy : holdAt hold n = y) : anyH hold a (ks.take (j + 1)) = (anyH hold a (ks.take j) || decide (y = a)) := by
  unfold anyH
  rw [take_snoc h, List.any_append, List.any_cons, List.any_nil, Bool.or_false, hy]
theorem anyH_iff {hold : List Int} {a : Int} {ks : List Int} : anyH hold a ks = true ↔ ∃ n ∈ ks, holdAt hold n = a := by
  unfold anyH
  simp [List.any_eq_true]
theorem holdAt_nat {hold : List Int} {n y : Int} {k : Nat} (hn : n = k) (hy : hold[k]? = some y) : holdAt hold n = y := by
  unfold holdAt; rw [hn, Int.toNat_natCast]; exact getD_hit hy
section
variable {P : Program} {ρ : Operand → Value} {w : World} {ty : TypeId}
theorem yBNe {x y : Operand} {a b : Bool} {t t' : TypeId} (hx : ρ x = .bool a) (hy : ρ y = .bool b) (ht : P.underlying t = some .bool) : Y P ρ (.binOp .neq t x y t') ty w (.bool (!(a == b))) w := by
  have h := run_neq_bool (P := P) w t a b ht
  simp [Y, xop, execOp, hx, hy, eqGuard, h]
end
end Bx
/- part Ck31 -/
namespace Go.Proofs.Ytghgnofilbnbaaa
open Go Bx
set_option maxHeartbeats 8000000 in
/-- barrage/barragelaw10.CrewTwo -/
theorem w_CrewTwo {c : Crew} {cs : List Value} {acts : List Acn} {av : Value} {w0 : World} (h : RCrew w0 cs c) (ha : Sl w0 6 RAct av acts) : CV Try.prog 10 #[.agg cs.toArray, av] w0 (.bool true) := by
  obtain ⟨ov, kv, nv, rfl, hso, hsk, hsn, hrm⟩ := id h
  obtain ⟨a, cap, rfl, hcap, hmx, hel⟩ := id hso
  obtain ⟨ak, ck, rfl, hkcap, hkmx, -⟩ := id hsk
  obtain ⟨an, cn, rfl, hncap, hnmx, heln⟩ := id hsn
  obtain ⟨aa, ca, rfl, hacap, hamx, hela⟩ := id ha
  refine enter Try.func10 rfl Try.ntmps10 rfl ?_
  have hS := St.start w0
  refine seq ?_
  refine region ?_
  refine sbox hS rfl rfl ?_; clear hS; intro b2 w hS
  refine sv (yAsg rfl) ?_
  refine nil ?_
  show Code.wp _ _ _ _ _
  refine seq ?_
  refine region ?_
  refine sv (yLdBA rfl Try.isAgg26 Try.sizeOf26 (hS.at _) rfl rfl) ?_
  refine sv (yMove rfl) ?_
  refine scall Try.call19 (.cons rfl (.cons rfl .nil)) (c_Orders (h.ext hS.ext) (ha.ext RAct.stays hS.ext)) ?_
  rintro _ w ⟨ov, rfl, hM⟩; replace hS := hS.call1 hM; clear hM
  obtain ⟨ao, co, rfl⟩ := row_shape (hS.row ov)
  refine sv (yMove rfl) ?_
  refine sv (yExt rfl rfl) ?_
  refine sv (yExt rfl rfl) ?_
  refine sv (yAsg rfl) ?_
  refine sv (yAsg rfl) ?_
  refine nil ?_
  show Code.wp _ _ _ _ _
  refine seq ?_
  refine seq ?_
  refine region ?_
  refine sv (yMove rfl) ?_
  refine sv (yNeq rfl rfl) ?_
  refine nil ?_
  show Code.wp _ _ _ _ _
  refine cond rfl (fun c28 => ?_) (fun c28 => ?_)
  ·
    simp only [Bool.and_eq_true, Bool.or_eq_true, Bool.and_eq_false_iff, Bool.or_eq_false_iff, decide_eq_true_eq, decide_eq_false_iff_not, Bool.not_eq_true, Bool.not_eq_false, Bool.not_not, Bool.not_eq_eq_eq_not, Bool.not_true, Bool.not_false, Bool.false_eq_true, Bool.true_eq_false, ne_eq, Decidable.not_not, not_false_eq_true, not_true_eq_false] at c28
    refine seq ?_
    refine region ?_
    refine sv (yMove rfl) ?_
    refine sv (yLen rfl Try.underlying46) ?_
    refine sv (yEql rfl rfl) ?_
    refine sv (yMove rfl) ?_
    refine sgc hS rfl rfl rfl Try.call18 (fun g => .nil) (fun g => c_Awake) ?_; clear hS; intro v33 w hS g33
    refine sv (yAnd rfl (fun hB => (g33.1 hB)) rfl) ?_
    refine sv (yAsg rfl) ?_
    refine nil ?_
    show Code.wp _ _ _ _ _
    refine wp_ret (thenR ?_)
    exact retV (res1 rfl (eqB (by rw [playO_bad c28]; rfl))) hS.ext
  ·
    simp only [Bool.and_eq_true, Bool.or_eq_true, Bool.and_eq_false_iff, Bool.or_eq_false_iff, decide_eq_true_eq, decide_eq_false_iff_not, Bool.not_eq_true, Bool.not_eq_false, Bool.not_not, Bool.not_eq_eq_eq_not, Bool.not_true, Bool.not_false, Bool.false_eq_true, Bool.true_eq_false, ne_eq, Decidable.not_not, not_false_eq_true, not_true_eq_false] at c28
    have hE : playE c acts = 0 := c28
    obtain ⟨hc9, hn60, hall9⟩ := play_ok hE
    have hnk := hc9.nkeys
    have hol : (playO c acts).length ≤ acts.length := by rw [playO_ok hE]; exact (plN_inv hc9 hall9 _ (Nat.le_refl _)).1.nord
    refine skip ?_
    show Code.wp _ _ _ _ _
    refine seq ?_
    refine seq ?_
    refine region ?_
    refine sv (yAsg rfl) ?_
    refine nil ?_
    show Code.wp _ _ _ _ _
    refine block ?_
    refine loop (fun f w zz => ∃ (i : Nat), f 1 = .slice aa acts.length ca ∧ f 2 = .pointer (some ⟨b2, 0, none⟩) ∧ f 5 = .slice ao (playO c acts).length co ∧ f 7 = .int .i64 (i : Int) ∧ StX [] w0 w [rowI (.slice ao (playO c acts).length co) 55 5 (playO c acts).length ((playO c acts).flatMap ordC), blk b2 [.slice a c.ops.length cap, .slice ak c.keys.length ck, .slice an c.kinds.length cn] 26] ∧ (i ≤ (playO c acts).length) ∧ zz = (playO c acts).length - i) _ ⟨_, rfl, 0, rfl, rfl, rfl, rfl, hS, (Nat.zero_le _), rfl⟩ ?_
    clear hS
    rintro f w _ ⟨i, h1, h2, h5, h7, hS, hi, rfl⟩
    refine seq ?_
    refine seq ?_
    refine region ?_
    refine sv (yMove h7) ?_
    refine sv (yMove h5) ?_
    refine sv (yLen rfl Try.underlying46) ?_
    refine sv (yLss rfl rfl) ?_
    refine nil ?_
    show Code.wp _ _ _ _ _
    refine cond rfl (fun c38 => ?_) (fun c38 => ?_)
    ·
      simp only [Bool.and_eq_true, Bool.or_eq_true, Bool.and_eq_false_iff, Bool.or_eq_false_iff, decide_eq_true_eq, decide_eq_false_iff_not, Bool.not_eq_true, Bool.not_eq_false, Bool.not_not, Bool.not_eq_eq_eq_not, Bool.not_true, Bool.not_false, Bool.false_eq_true, Bool.true_eq_false, ne_eq, Decidable.not_not, not_false_eq_true, not_true_eq_false] at c38
      refine skip ?_
      show Code.wp _ _ _ _ _
      refine seq ?_
      refine block ?_
      refine seq ?_
      refine region ?_
      obtain ⟨o, hxo, -⟩ := drop_of (l := playO c acts) (k := i) (by omega)
      obtain ⟨gg, xx, zs, gi, ki, ai, hT⟩ := two_facts hE (List.mem_of_getElem? hxo)
      have hgi := hT.hgi
      have hki := hT.hki
      have hai := hT.hat
      have hgl := (List.getElem?_eq_some_iff.1 hT.hg).1
      have hsl := (List.getElem?_eq_some_iff.1 hT.hs).1
      have hkl := (List.getElem?_eq_some_iff.1 hT.hx).1
      have hgt := (hall9 gi _ hT.hg).tm
      have hst := (hall9 ai _ hT.hs).tm
      have hstm := hT.tm
      obtain ⟨zg, hxg, hdg⟩ := drop_of (l := acts) (k := gi) (by omega)
      obtain ⟨bg, og, csg, hag, hleng, hcsg, hRg⟩ := hela (gi) (by omega)
      obtain rfl : zg = acts[gi] := (List.getElem?_eq_some_iff.1 hxg).2.symm
      generalize acts[gi] = zg at hxg hdg hRg
      obtain ⟨rfl, hig⟩ := hRg
      obtain rfl : gg = zg := Option.some.inj (hT.hg.symm.trans hxg)
      obtain ⟨zt, hxt, hdt⟩ := drop_of (l := acts) (k := ai) (by omega)
      obtain ⟨bt, ot, cst, hat, hlent, hcst, hRt⟩ := hela (ai) (by omega)
      obtain rfl : zt = acts[ai] := (List.getElem?_eq_some_iff.1 hxt).2.symm
      generalize acts[ai] = zt at hxt hdt hRt
      obtain ⟨rfl, hit⟩ := hRt
      obtain rfl : zs = zt := Option.some.inj (hT.hs.symm.trans hxt)
      obtain ⟨zk, hxk, hdk⟩ := drop_of (l := c.kinds) (k := ki) (by omega)
      obtain ⟨bk, ok, csk, hak, hlenk, hcsk, hRk⟩ := heln (ki) (by omega)
      obtain rfl : zk = c.kinds[ki] := (List.getElem?_eq_some_iff.1 hxk).2.symm
      generalize c.kinds[ki] = zk at hxk hdk hRk
      obtain ⟨xv, rfl, -, -, -, -, hsx, -⟩ := hRk
      obtain rfl : xx = zk := Option.some.inj (hT.hx.symm.trans hxk)
      obtain ⟨axk, cxk, rfl, hxcap, hxmx, helx⟩ := id hsx
      obtain ⟨go, rfl, -⟩ := row_get (hS.row (.slice ao (playO c acts).length co)) (by omega)
      refine sv (yMove h5) ?_
      refine sv (yMove h7) ?_
      refine sv (yIx0 rfl rfl Try.runUnderlying46 Try.sizeOf55 (by omega)) ?_
      refine sv (yLdA rfl Try.isAgg55 Try.sizeOf55 (flat_cells0 ordC_len (row_at (hS.row (.slice (some ⟨go, 0, none⟩) (playO c acts).length co)) rfl (by omega)) hxo) rfl) ?_
      refine salloc hS Try.zeroValue55 rfl ?_; clear hS; intro b8 w hS
      refine sst hS rfl rfl Try.sizeOf55 rfl rfl rfl rfl ?_; clear hS; intro w hS
      refine nil ?_
      show Code.wp _ _ _ _ _
      refine seq ?_
      refine region ?_
      replace hS : StX [] w0 w (blk b8 (ordC o) 55 :: rowI (.slice (some ⟨go, 0, none⟩) (playO c acts).length co) 55 5 (playO c acts).length ((playO c acts).flatMap ordC) :: blk b2 [.slice a c.ops.length cap, .slice ak c.keys.length ck, .slice an c.kinds.length cn] 26 :: []) := hS
      refine sv (fa55_0 rfl) ?_
      refine sv (yLdB rfl Try.isAgg3 (hS.at _) rfl) ?_
      refine sv (fa55_1 rfl) ?_
      refine sv (yLdB rfl Try.isAgg3 (hS.at _) rfl) ?_
      refine sv (yMax rfl rfl) ?_
      refine sv (yAsg rfl) ?_
      refine nil ?_
      show Code.wp _ _ _ _ _
      refine seq ?_
      refine seq ?_
      refine region ?_
      refine sv (fa55_0 rfl) ?_
      refine sv (yLdB rfl Try.isAgg3 (hS.at _) rfl) ?_
      refine sv (yLss rfl rfl) ?_
      refine sv (yMove rfl) ?_
      refine sg rfl rfl rfl (fun g => (yMove rfl)) (fun v54 g54 => ?_)
      refine sg rfl rfl rfl (fun g => (yMove h1)) (fun v55 g55 => ?_)
      refine sg rfl rfl rfl (fun g => (yLen (g55.1 g) Try.underlying37)) (fun v56 g56 => ?_)
      refine sg rfl rfl rfl (fun g => (yGeq (g54.1 g) (g56.1 g))) (fun v57 g57 => ?_)
      refine sv (yOr rfl rfl (fun hB => (g57.1 hB))) ?_
      refine sv (yMove rfl) ?_
      refine sg rfl rfl rfl (fun g => (fa55_2 rfl)) (fun v60 g60 => ?_)
      refine sg rfl rfl rfl (fun g => (yLdB (g60.1 g) Try.isAgg3 (hS.at _) rfl)) (fun v61 g61 => ?_)
      refine sg rfl rfl rfl (fun g => (yLss (g61.1 g) rfl)) (fun v62 g62 => ?_)
      refine sv (yOr rfl rfl (fun hB => (g62.1 hB))) ?_
      refine sv (yMove rfl) ?_
      refine sg rfl rfl rfl (fun g => (fa55_2 rfl)) (fun v65 g65 => ?_)
      refine sg rfl rfl rfl (fun g => (yLdB (g65.1 g) Try.isAgg3 (hS.at _) rfl)) (fun v66 g66 => ?_)
      refine sg rfl rfl rfl (fun g => (fa26_2 h2)) (fun v67 g67 => ?_)
      refine sg rfl rfl rfl (fun g => (yLdB (g67.1 g) Try.isAgg24 (hS.at _) rfl)) (fun v68 g68 => ?_)
      refine sg rfl rfl rfl (fun g => (yLen (g68.1 g) Try.underlying24)) (fun v69 g69 => ?_)
      refine sg rfl rfl rfl (fun g => (yGeq (g66.1 g) (g69.1 g))) (fun v70 g70 => ?_)
      refine sv (yOr rfl rfl (fun hB => (g70.1 hB))) ?_
      refine nil ?_
      show Code.wp _ _ _ _ _
      refine cond rfl (fun c71 => ?_) (fun c71 => ?_)
      ·
        simp only [Bool.and_eq_true, Bool.or_eq_true, Bool.and_eq_false_iff, Bool.or_eq_false_iff, decide_eq_true_eq, decide_eq_false_iff_not, Bool.not_eq_true, Bool.not_eq_false, Bool.not_not, Bool.not_eq_eq_eq_not, Bool.not_true, Bool.not_false, Bool.false_eq_true, Bool.true_eq_false, ne_eq, Decidable.not_not, not_false_eq_true, not_true_eq_false] at c71
        exfalso; omega
      ·
        simp only [Bool.and_eq_true, Bool.or_eq_true, Bool.and_eq_false_iff, Bool.or_eq_false_iff, decide_eq_true_eq, decide_eq_false_iff_not, Bool.not_eq_true, Bool.not_eq_false, Bool.not_not, Bool.not_eq_eq_eq_not, Bool.not_true, Bool.not_false, Bool.false_eq_true, Bool.true_eq_false, ne_eq, Decidable.not_not, not_false_eq_true, not_true_eq_false] at c71
        refine skip ?_
        show Code.wp _ _ _ _ _
        refine seq ?_
        refine seq ?_
        refine region ?_
        refine sv (yAsg rfl) ?_
        refine nil ?_
        show Code.wp _ _ _ _ _
        refine block ?_
        refine loop (fun f w zz => ∃ (k : Nat), f 1 = .slice aa acts.length ca ∧ f 2 = .pointer (some ⟨b2, 0, none⟩) ∧ f 5 = .slice (some ⟨go, 0, none⟩) (playO c acts).length co ∧ f 7 = .int .i64 (i : Int) ∧ f 8 = .pointer (some ⟨b8, 0, none⟩) ∧ f 9 = .int .i64 (max o.giv o.conf) ∧ f 10 = .int .i64 (k : Int) ∧ StX [] w0 w [blk b8 (ordC o) 55, rowI (.slice (some ⟨go, 0, none⟩) (playO c acts).length co) 55 5 (playO c acts).length ((playO c acts).flatMap ordC), blk b2 [.slice a c.ops.length cap, .slice ak c.keys.length ck, .slice an c.kinds.length cn] 26] ∧ (k ≤ i) ∧ zz = i - k) _ ⟨_, rfl, 0, h1, h2, h5, h7, rfl, rfl, rfl, hS, (Nat.zero_le _), rfl⟩ ?_
        clear hS
        rintro f w _ ⟨k, h1, h2, h5, h7, h8, h9, h10, hS, hk, rfl⟩
        refine seq ?_
        refine seq ?_
        refine region ?_
        refine sv (yMove h10) ?_
        refine sv (yMove h7) ?_
        refine sv (yLss rfl rfl) ?_
        refine nil ?_
        show Code.wp _ _ _ _ _
        refine cond rfl (fun c74 => ?_) (fun c74 => ?_)
        ·
          simp only [Bool.and_eq_true, Bool.or_eq_true, Bool.and_eq_false_iff, Bool.or_eq_false_iff, decide_eq_true_eq, decide_eq_false_iff_not, Bool.not_eq_true, Bool.not_eq_false, Bool.not_not, Bool.not_eq_eq_eq_not, Bool.not_true, Bool.not_false, Bool.false_eq_true, Bool.true_eq_false, ne_eq, Decidable.not_not, not_false_eq_true, not_true_eq_false] at c74
          refine skip ?_
          show Code.wp _ _ _ _ _
          refine seq ?_
          refine block ?_
          refine seq ?_
          refine region_draw mixed (by kernel_rfl) hS ?_
          obtain ⟨u, hxu, -⟩ := drop_of (l := playO c acts) (k := k) (by omega)
          have hpr := pair_get (two_ok hE).2 hxu hxo (by omega)
          refine qv (fun w hS => (yMove h5)) ?_
          refine qv (fun w hS => (yMove h10)) ?_
          refine qv (fun w hS => (yIx0 rfl rfl Try.runUnderlying46 Try.sizeOf55 (by omega))) ?_
          refine qv (fun w hS => (fa55_0 rfl)) ?_
          refine qv (fun w hS => (yLd rfl Try.isAgg3 ((flat_cells0 ordC_len (row_at (hS.row (.slice (some ⟨go, 0, none⟩) (playO c acts).length co)) rfl (by omega)) hxu).at (j := 0) rfl))) ?_
          refine qv (fun w hS => (fa55_0 h8)) ?_
          refine qv (fun w hS => (yLdB rfl Try.isAgg3 (hS.at _) rfl)) ?_
          refine qv (fun w hS => (yEql rfl rfl)) ?_
          refine qv (fun w hS => (yMove rfl)) ?_
          refine qg rfl rfl rfl (fun g w hS => (yMove h5)) (fun v86 g86 => ?_)
          refine qg rfl rfl rfl (fun g w hS => (yMove h10)) (fun v87 g87 => ?_)
          refine qg rfl rfl rfl (fun g w hS => (yIx0 (g86.1 g) (g87.1 g) Try.runUnderlying46 Try.sizeOf55 (by omega))) (fun v88 g88 => ?_)
          refine qg rfl rfl rfl (fun g w hS => (fa55_4 (g88.1 g))) (fun v89 g89 => ?_)
          refine qg rfl rfl rfl (fun g w hS => (yLd (g89.1 g) Try.isAgg3 ((flat_cells0 ordC_len (row_at (hS.row (.slice (some ⟨go, 0, none⟩) (playO c acts).length co)) rfl (by omega)) hxu).at (j := 4) rfl))) (fun v90 g90 => ?_)
          refine qg rfl rfl rfl (fun g w hS => (fa55_4 h8)) (fun v91 g91 => ?_)
          refine qg rfl rfl rfl (fun g w hS => (yLdB (g91.1 g) Try.isAgg3 (hS.at _) rfl)) (fun v92 g92 => ?_)
          refine qg rfl rfl rfl (fun g w hS => (yGtr (g90.1 g) (g92.1 g))) (fun v93 g93 => ?_)
          refine qv (fun w hS => (yOr rfl rfl (fun hB => (g93.1 hB)))) ?_
          clear hS; refine qnil (fun w hS => ?_)
          show Code.wp _ _ _ _ _
          refine cond rfl (fun c94 => ?_) (fun c94 => ?_)
          ·
            simp only [Bool.and_eq_true, Bool.or_eq_true, Bool.and_eq_false_iff, Bool.or_eq_false_iff, decide_eq_true_eq, decide_eq_false_iff_not, Bool.not_eq_true, Bool.not_eq_false, Bool.not_not, Bool.not_eq_eq_eq_not, Bool.not_true, Bool.not_false, Bool.false_eq_true, Bool.true_eq_false, ne_eq, Decidable.not_not, not_false_eq_true, not_true_eq_false] at c94
            exfalso
            rcases c94 with h1 | h1
            · exact hpr.1 h1
            · omega
          ·
            simp only [Bool.and_eq_true, Bool.or_eq_true, Bool.and_eq_false_iff, Bool.or_eq_false_iff, decide_eq_true_eq, decide_eq_false_iff_not, Bool.not_eq_true, Bool.not_eq_false, Bool.not_not, Bool.not_eq_eq_eq_not, Bool.not_true, Bool.not_false, Bool.false_eq_true, Bool.true_eq_false, ne_eq, Decidable.not_not, not_false_eq_true, not_true_eq_false] at c94
            refine skip ?_
            show Code.wp _ _ _ _ _
            refine region ?_
            refine sv (yMove h10) ?_
            refine sv (yAdd rfl rfl ⟨by omega, by omega⟩) ?_
            refine sv (yAsg rfl) ?_
            refine nil ?_
            exact ⟨_, _, rfl, ⟨k + 1, h1, h2, h5, h7, h8, h9, rfl, hS, (by omega), rfl⟩, by omega⟩
        ·
          simp only [Bool.and_eq_true, Bool.or_eq_true, Bool.and_eq_false_iff, Bool.or_eq_false_iff, decide_eq_true_eq, decide_eq_false_iff_not, Bool.not_eq_true, Bool.not_eq_false, Bool.not_not, Bool.not_eq_eq_eq_not, Bool.not_true, Bool.not_false, Bool.false_eq_true, Bool.true_eq_false, ne_eq, Decidable.not_not, not_false_eq_true, not_true_eq_false] at c74
          refine exit ?_
          show Code.wp _ _ _ _ _
          refine seqJ (n := 294) (fun f w => ∃ (p11 p12 : Nat), f 1 = .slice aa acts.length ca ∧ f 2 = .pointer (some ⟨b2, 0, none⟩) ∧ f 5 = .slice (some ⟨go, 0, none⟩) (playO c acts).length co ∧ f 7 = .int .i64 (i : Int) ∧ f 8 = .pointer (some ⟨b8, 0, none⟩) ∧ f 9 = .int .i64 (max o.giv o.conf) ∧ f 11 = .pointer (some ⟨p11, 0, none⟩) ∧ f 12 = .pointer (some ⟨p12, 0, none⟩) ∧ StX [] w0 w [blk p11 (actC gg) 53, blk p12 [.string xx.name, .int .i64 xx.grade, .int .i64 xx.second, .int .i64 xx.within, .slice axk xx.keys.length cxk, .bool xx.split] 79, blk b8 (ordC o) 55, rowI (.slice (some ⟨go, 0, none⟩) (playO c acts).length co) 55 5 (playO c acts).length ((playO c acts).flatMap ordC), blk b2 [.slice a c.ops.length cap, .slice ak c.keys.length ck, .slice an c.kinds.length cn] 26] ∧ True) ?_ ?_
          ·
            refine region_mix (fun w => StX [] w0 w (blk b8 (ordC o) 55 :: rowI (.slice (some ⟨go, 0, none⟩) (playO c acts).length co) 55 5 (playO c acts).length ((playO c acts).flatMap ordC) :: blk b2 [.slice a c.ops.length cap, .slice ak c.keys.length ck, .slice an c.kinds.length cn] 26 :: [])) 15 mixed hS ?_
            clear hS; intro w hS
            refine f_step 0 (by kernel_rfl) rfl (fun c a a' w h => by obtain ⟨_, v, hv, _⟩ := h; cases hv) (hS.sub (List.Sublist.refl _)) (fun w hS => (yMove h1)) ?_
            refine f_step 1 (by kernel_rfl) rfl (fun c a a' w h => by obtain ⟨_, v, hv, _⟩ := h; cases hv) (hS.sub (List.Sublist.refl _)) (fun w hS => (fa55_0 h8)) ?_
            refine f_step 2 (by kernel_rfl) rfl (fun c a a' w h => by obtain ⟨_, v, hv, _⟩ := h; cases hv) (hS.sub (List.Sublist.refl _)) (fun w hS => (yLdB rfl Try.isAgg3 (hS.at _) rfl)) ?_
            refine f_step 3 (by kernel_rfl) rfl (fun c a a' w h => by obtain ⟨_, v, hv, _⟩ := h; cases hv) (hS.sub (List.Sublist.refl _)) (fun w hS => (yIxa rfl hag (rfl.trans (congrArg (Value.int .i64) hgi)) Try.runUnderlying37 Try.sizeOf53 (by omega) (by omega))) ?_
            refine f_step 4 (by kernel_rfl) rfl (fun c a a' w h => by obtain ⟨_, v, hv, _⟩ := h; cases hv) (hS.sub (List.Sublist.refl _)) (fun w hS => (yLdA rfl Try.isAgg53 Try.sizeOf53 (hcsg.ext hS.ext) rfl)) ?_
            refine f_step 5 (by kernel_rfl) rfl (fun c a a' w h => by obtain ⟨_, v, hv, _⟩ := h; cases hv) (hS.sub (List.Sublist.refl _)) (fun w hS => (fa26_2 h2)) ?_
            refine f_step 6 (by kernel_rfl) rfl (fun c a a' w h => by obtain ⟨_, v, hv, _⟩ := h; cases hv) (hS.sub (List.Sublist.refl _)) (fun w hS => (yLdB rfl Try.isAgg24 (hS.at _) rfl)) ?_
            refine f_step 7 (by kernel_rfl) rfl (fun c a a' w h => by obtain ⟨_, v, hv, _⟩ := h; cases hv) (hS.sub (List.Sublist.refl _)) (fun w hS => (fa55_2 h8)) ?_
            refine f_step 8 (by kernel_rfl) rfl (fun c a a' w h => by obtain ⟨_, v, hv, _⟩ := h; cases hv) (hS.sub (List.Sublist.refl _)) (fun w hS => (yLdB rfl Try.isAgg3 (hS.at _) rfl)) ?_
            refine f_step 9 (by kernel_rfl) rfl (fun c a a' w h => by obtain ⟨_, v, hv, _⟩ := h; cases hv) (hS.sub (List.Sublist.refl _)) (fun w hS => (yIxa rfl hak (rfl.trans (congrArg (Value.int .i64) hki)) Try.runUnderlying24 Try.sizeOf79 (by omega) (by omega))) ?_
            refine f_step 10 (by kernel_rfl) rfl (fun c a a' w h => by obtain ⟨_, v, hv, _⟩ := h; cases hv) (hS.sub (List.Sublist.refl _)) (fun w hS => (yLdA rfl Try.isAgg79 Try.sizeOf79 (hcsk.ext hS.ext) rfl)) ?_
            show wpA _ _ _ _ _ _ _ _ _ _
            refine a_step (i := 11) (is := [12]) (by kernel_rfl) ⟨?_, ?_, trivial⟩
            ·
              refine ⟨_, rfl, ?_⟩
              refine salloc hS Try.zeroValue53 rfl ?_; clear hS; intro b11 w hS
              refine nil ?_
              refine ⟨fun _ => (hS.sub (.cons _ (List.Sublist.refl _))), ?_⟩
              show wpA _ _ _ _ _ _ _ _ _ _
              show wpA _ _ _ _ _ _ _ _ _ _
              refine a_step (i := 12) (is := []) (by kernel_rfl) ⟨?_, trivial⟩
              refine ⟨_, rfl, ?_⟩
              refine salloc hS Try.zeroValue79 rfl ?_; clear hS; intro b12 w hS
              refine nil ?_
              refine ⟨fun _ => (hS.sub (.cons _ (.cons _ (List.Sublist.refl _)))), ?_⟩
              show wpA _ _ _ _ _ _ _ _ _ _
              show wpA _ _ _ _ _ _ _ _ _ _
              refine a_step (i := 13) (is := []) (by kernel_rfl) ⟨?_, trivial⟩
              refine ⟨_, rfl, ?_⟩
              refine sst hS rfl rfl Try.sizeOf53 rfl rfl rfl rfl ?_; clear hS; intro w hS
              refine nil ?_
              refine ⟨fun _ => (hS.sub (.cons _ (.cons _ (List.Sublist.refl _)))), ?_⟩
              show wpA _ _ _ _ _ _ _ _ _ _
              show wpA _ _ _ _ _ _ _ _ _ _
              refine a_step (i := 14) (is := []) (by kernel_rfl) ⟨?_, trivial⟩
              refine ⟨_, rfl, ?_⟩
              refine sst hS rfl rfl Try.sizeOf79 rfl rfl rfl rfl ?_; clear hS; intro w hS
              refine nil ?_
              refine ⟨fun _ => (hS.sub (.cons _ (.cons _ (List.Sublist.refl _)))), ?_⟩
              show wpA _ _ _ _ _ _ _ _ _ _
              refine a_end (by kernel_rfl) ?_
              exact ⟨_, rfl, _, _, h1, h2, h5, h7, h8, h9, rfl, rfl, (by first | exact hS | exact hS.perm (.swap _ _ _)), trivial⟩
            ·
              refine ⟨_, rfl, ?_⟩
              refine salloc hS Try.zeroValue79 rfl ?_; clear hS; intro b12 w hS
              refine nil ?_
              refine ⟨fun _ => (hS.sub (.cons _ (List.Sublist.refl _))), ?_⟩
              show wpA _ _ _ _ _ _ _ _ _ _
              show wpA _ _ _ _ _ _ _ _ _ _
              refine a_step (i := 11) (is := []) (by kernel_rfl) ⟨?_, trivial⟩
              refine ⟨_, rfl, ?_⟩
              refine salloc hS Try.zeroValue53 rfl ?_; clear hS; intro b11 w hS
              refine nil ?_
              refine ⟨fun _ => (hS.sub (.cons _ (.cons _ (List.Sublist.refl _)))), ?_⟩
              show wpA _ _ _ _ _ _ _ _ _ _
              show wpA _ _ _ _ _ _ _ _ _ _
              refine a_step (i := 13) (is := []) (by kernel_rfl) ⟨?_, trivial⟩
              refine ⟨_, rfl, ?_⟩
              refine sst hS rfl rfl Try.sizeOf53 rfl rfl rfl rfl ?_; clear hS; intro w hS
              refine nil ?_
              refine ⟨fun _ => (hS.sub (.cons _ (.cons _ (List.Sublist.refl _)))), ?_⟩
              show wpA _ _ _ _ _ _ _ _ _ _
              show wpA _ _ _ _ _ _ _ _ _ _
              refine a_step (i := 14) (is := []) (by kernel_rfl) ⟨?_, trivial⟩
              refine ⟨_, rfl, ?_⟩
              refine sst hS rfl rfl Try.sizeOf79 rfl rfl rfl rfl ?_; clear hS; intro w hS
              refine nil ?_
              refine ⟨fun _ => (hS.sub (.cons _ (.cons _ (List.Sublist.refl _)))), ?_⟩
              show wpA _ _ _ _ _ _ _ _ _ _
              refine a_end (by kernel_rfl) ?_
              exact ⟨_, rfl, _, _, h1, h2, h5, h7, h8, h9, rfl, rfl, (by first | exact hS | exact hS.perm (.swap _ _ _)), trivial⟩
          ·
            clear hS; rintro f w ⟨p11, p12, h1, h2, h5, h7, h8, h9, h11, h12, hS, -⟩
            refine seq ?_
            refine seq ?_
            refine region_draw mixed (by kernel_rfl) hS ?_
            refine qv (fun w hS => (fa53_2 h11)) ?_
            refine qv (fun w hS => (yLdB rfl Try.isAgg3 (hS.at _) rfl)) ?_
            refine qv (fun w hS => (yNeq rfl rfl)) ?_
            refine qv (fun w hS => (yMove rfl)) ?_
            refine qg rfl rfl rfl (fun g w hS => (fa53_3 h11)) (fun v110 g110 => ?_)
            refine qg rfl rfl rfl (fun g w hS => (yLdB (g110.1 g) Try.isAgg3 (hS.at _) rfl)) (fun v111 g111 => ?_)
            refine qg rfl rfl rfl (fun g w hS => (fa55_2 h8)) (fun v112 g112 => ?_)
            refine qg rfl rfl rfl (fun g w hS => (yLdB (g112.1 g) Try.isAgg3 (hS.at _) rfl)) (fun v113 g113 => ?_)
            refine qg rfl rfl rfl (fun g w hS => (yNeq (g111.1 g) (g113.1 g))) (fun v114 g114 => ?_)
            refine qv (fun w hS => (yOr rfl rfl (fun hB => (g114.1 hB)))) ?_
            refine qv (fun w hS => (yMove rfl)) ?_
            refine qg rfl rfl rfl (fun g w hS => (fa53_5 h11)) (fun v117 g117 => ?_)
            refine qg rfl rfl rfl (fun g w hS => (yLdB (g117.1 g) Try.isAgg3 (hS.at _) rfl)) (fun v118 g118 => ?_)
            refine qg rfl rfl rfl (fun g w hS => (fa55_3 h8)) (fun v119 g119 => ?_)
            refine qg rfl rfl rfl (fun g w hS => (yLdB (g119.1 g) Try.isAgg3 (hS.at _) rfl)) (fun v120 g120 => ?_)
            refine qg rfl rfl rfl (fun g w hS => (yNeq (g118.1 g) (g120.1 g))) (fun v121 g121 => ?_)
            refine qv (fun w hS => (yOr rfl rfl (fun hB => (g121.1 hB)))) ?_
            refine qv (fun w hS => (yMove rfl)) ?_
            refine qg rfl rfl rfl (fun g w hS => (yMove h1)) (fun v124 g124 => ?_)
            refine qg rfl rfl rfl (fun g w hS => (yMove h9)) (fun v125 g125 => ?_)
            refine qg rfl rfl rfl (fun g w hS => (yIxa (g124.1 g) hat ((g125.1 g).trans (congrArg (Value.int .i64) hai)) Try.runUnderlying37 Try.sizeOf53 (by omega) (by omega))) (fun v126 g126 => ?_)
            refine qg rfl rfl rfl (fun g w hS => (fa53_0 (g126.1 g))) (fun v127 g127 => ?_)
            refine qg rfl rfl rfl (fun g w hS => (yLd (g127.1 g) Try.isAgg3 ((hcst.ext hS.ext).at (j := 0) rfl))) (fun v128 g128 => ?_)
            refine qg rfl rfl rfl (fun g w hS => (fa55_4 h8)) (fun v129 g129 => ?_)
            refine qg rfl rfl rfl (fun g w hS => (yLdB (g129.1 g) Try.isAgg3 (hS.at _) rfl)) (fun v130 g130 => ?_)
            refine qg rfl rfl rfl (fun g w hS => (yNeq (g128.1 g) (g130.1 g))) (fun v131 g131 => ?_)
            refine qv (fun w hS => (yOr rfl rfl (fun hB => (g131.1 hB)))) ?_
            refine qv (fun w hS => (yMove rfl)) ?_
            refine qg rfl rfl rfl (fun g w hS => (yLdBA h2 Try.isAgg26 Try.sizeOf26 (hS.at _) rfl rfl)) (fun v134 g134 => ?_)
            refine qg rfl rfl rfl (fun g w hS => (fa53_1 h11)) (fun v135 g135 => ?_)
            refine qg rfl rfl rfl (fun g w hS => (yLdB (g135.1 g) Try.isAgg3 (hS.at _) rfl)) (fun v136 g136 => ?_)
            refine qg rfl rfl rfl (fun g w hS => (fa53_0 h11)) (fun v137 g137 => ?_)
            refine qg rfl rfl rfl (fun g w hS => (yLdB (g137.1 g) Try.isAgg3 (hS.at _) rfl)) (fun v138 g138 => ?_)
            refine qg rfl rfl rfl (fun g w hS => (fa79_1 h12)) (fun v139 g139 => ?_)
            refine qg rfl rfl rfl (fun g w hS => (yLdB (g139.1 g) Try.isAgg3 (hS.at _) rfl)) (fun v140 g140 => ?_)
            refine qgc rfl rfl rfl Try.call31 (fun g => (.cons (g134.1 g) (.cons (g136.1 g) (.cons (g138.1 g) (.cons (g140.1 g) .nil))))) (fun g w hS => (c_fits (h.ext hS.ext))) (fun v141 g141 => ?_)
            refine qg rfl rfl rfl (fun g w hS => (yNot (g141.1 g))) (fun v142 g142 => ?_)
            refine qv (fun w hS => (yOr rfl rfl (fun hB => (g142.1 hB)))) ?_
            refine qv (fun w hS => (yMove rfl)) ?_
            refine qg rfl rfl rfl (fun g w hS => (yLdBA h2 Try.isAgg26 Try.sizeOf26 (hS.at _) rfl rfl)) (fun v145 g145 => ?_)
            refine qg rfl rfl rfl (fun g w hS => (fa53_1 h11)) (fun v146 g146 => ?_)
            refine qg rfl rfl rfl (fun g w hS => (yLdB (g146.1 g) Try.isAgg3 (hS.at _) rfl)) (fun v147 g147 => ?_)
            refine qg rfl rfl rfl (fun g w hS => (fa55_4 h8)) (fun v148 g148 => ?_)
            refine qg rfl rfl rfl (fun g w hS => (yLdB (g148.1 g) Try.isAgg3 (hS.at _) rfl)) (fun v149 g149 => ?_)
            refine qgc rfl rfl rfl Try.call31 (fun g => (.cons (g145.1 g) (.cons (g147.1 g) (.cons (g149.1 g) (.cons rfl .nil))))) (fun g w hS => (c_fits (h.ext hS.ext))) (fun v150 g150 => ?_)
            refine qg rfl rfl rfl (fun g w hS => (yNot (g150.1 g))) (fun v151 g151 => ?_)
            refine qv (fun w hS => (yOr rfl rfl (fun hB => (g151.1 hB)))) ?_
            clear hS; refine qnil (fun w hS => ?_)
            show Code.wp _ _ _ _ _
            refine cond rfl (fun c152 => ?_) (fun c152 => ?_)
            ·
              simp only [Bool.and_eq_true, Bool.or_eq_true, Bool.and_eq_false_iff, Bool.or_eq_false_iff, decide_eq_true_eq, decide_eq_false_iff_not, Bool.not_eq_true, Bool.not_eq_false, Bool.not_not, Bool.not_eq_eq_eq_not, Bool.not_true, Bool.not_false, Bool.false_eq_true, Bool.true_eq_false, ne_eq, Decidable.not_not, not_false_eq_true, not_true_eq_false] at c152
              exfalso
              rcases c152 with ((((h1 | h1) | h1) | h1) | h1) | h1
              · exact h1 hT.dw
              · exact h1 hT.what
              · exact h1 hT.subj
              · exact h1 hT.tm
              · rw [hT.f1] at h1; cases h1
              · rw [hT.f2] at h1; cases h1
            ·
              simp only [Bool.and_eq_true, Bool.or_eq_true, Bool.and_eq_false_iff, Bool.or_eq_false_iff, decide_eq_true_eq, decide_eq_false_iff_not, Bool.not_eq_true, Bool.not_eq_false, Bool.not_not, Bool.not_eq_eq_eq_not, Bool.not_true, Bool.not_false, Bool.false_eq_true, Bool.true_eq_false, ne_eq, Decidable.not_not, not_false_eq_true, not_true_eq_false] at c152
              refine skip ?_
              show Code.wp _ _ _ _ _
              refine seq ?_
              refine region_mix (fun w => w.heap[b2]? = some (.cells ([.slice a c.ops.length cap, .slice ak c.keys.length ck, .slice an c.kinds.length cn] : List Value).toArray 26 (0, 0))) 10 mixed hS ?_
              clear hS; intro w hS
              refine f_step 0 (by kernel_rfl) rfl (fun c a a' w h => by obtain ⟨_, v, hv, _⟩ := h; cases hv) (hS.at b2) (fun w hS => (yLdBA h2 Try.isAgg26 Try.sizeOf26 hS rfl rfl)) ?_
              refine f_step 1 (by kernel_rfl) rfl (fun c a a' w h => by obtain ⟨_, v, hv, _⟩ := h; cases hv) (hS.at b2) (fun w hS => (yMove h1)) ?_
              refine f_step 2 (by kernel_rfl) rfl (fun c a a' w h => by obtain ⟨_, v, hv, _⟩ := h; cases hv) (hS.at b2) (fun w hS => (yMove h9)) ?_
              refine f_step 3 (by kernel_rfl) rfl (fun c a a' w h => by obtain ⟨_, v, hv, _⟩ := h; cases hv) (hS.at b2) (fun w hS => (yTo rfl (rfl.trans (congrArg (Value.int .i64) hai)) Try.underlying37 Try.sizeOf53 (by omega))) ?_
              show wpA _ _ _ _ _ _ _ _ _ _
              refine a_step (i := 4) (is := []) (by kernel_rfl) ⟨?_, trivial⟩
              refine ⟨_, rfl, ?_⟩
              refine scall Try.call30 (.cons rfl (.cons rfl .nil)) (c_Keys (h.ext hS.ext) ((ha.take (i := ai) (by omega)).ext RAct.stays hS.ext)) ?_
              rintro _ w ⟨kv2, rfl, hM⟩; rw [playE_take hE]; rw [playK_take hE (k := ai) (by omega), (keysN_ok hE (k := ai) (by omega)).1] at hM; replace hS := hS.call1 hM; clear hM
              obtain ⟨ac, cc, rfl⟩ := row_shape (hS.row kv2)
              refine nil ?_
              refine ⟨fun _ => (hS.at b2), ?_⟩
              show wpA _ _ _ _ _ _ _ _ _ _
              refine f_step 5 (by kernel_rfl) rfl (fun c a a' w h => by obtain ⟨_, v, hv, _⟩ := h; cases hv) (hS.at b2) (fun w hS => (yMove rfl)) ?_
              refine f_step 6 (by kernel_rfl) rfl (fun c a a' w h => by obtain ⟨_, v, hv, _⟩ := h; cases hv) (hS.at b2) (fun w hS => (yExt rfl rfl)) ?_
              refine f_step 7 (by kernel_rfl) rfl (fun c a a' w h => by obtain ⟨_, v, hv, _⟩ := h; cases hv) (hS.at b2) (fun w hS => (yExt rfl rfl)) ?_
              refine f_step 8 (by kernel_rfl) rfl (fun c a a' w h => by obtain ⟨_, v, hv, _⟩ := h; cases hv) (hS.at b2) (fun w hS => (yAsg rfl)) ?_
              refine f_step 9 (by kernel_rfl) rfl (fun c a a' w h => by obtain ⟨_, v, hv, _⟩ := h; cases hv) (hS.at b2) (fun w hS => (yAsg rfl)) ?_
              refine a_end (by kernel_rfl) ?_
              show Code.wp _ _ _ _ _
              refine seq ?_
              refine seq ?_
              refine region ?_
              refine sv (yMove rfl) ?_
              refine sv (yNeq rfl rfl) ?_
              refine sv (yMove rfl) ?_
              refine sg rfl rfl rfl (fun g => (yMove rfl)) (fun v164 g164 => ?_)
              refine sg rfl rfl rfl (fun g => (yLen (g164.1 g) Try.underlying30)) (fun v165 g165 => ?_)
              refine sg rfl rfl rfl (fun g => (fa26_1 h2)) (fun v166 g166 => ?_)
              refine sg rfl rfl rfl (fun g => (yLdB (g166.1 g) Try.isAgg23 (hS.at _) rfl)) (fun v167 g167 => ?_)
              refine sg rfl rfl rfl (fun g => (yLen (g167.1 g) Try.underlying23)) (fun v168 g168 => ?_)
              refine sg rfl rfl rfl (fun g => (yNeq (g165.1 g) (g168.1 g))) (fun v169 g169 => ?_)
              refine sv (yOr rfl rfl (fun hB => (g169.1 hB))) ?_
              refine sv (yMove rfl) ?_
              refine sg rfl rfl rfl (fun g => (fa79_2 h12)) (fun v172 g172 => ?_)
              refine sg rfl rfl rfl (fun g => (yLdB (g172.1 g) Try.isAgg3 (hS.at _) rfl)) (fun v173 g173 => ?_)
              refine sg rfl rfl rfl (fun g => (yEql (g173.1 g) rfl)) (fun v174 g174 => ?_)
              refine sg rfl rfl rfl (fun g => (fa55_1 h8)) (fun v175 g175 => ?_)
              refine sg rfl rfl rfl (fun g => (yLdB (g175.1 g) Try.isAgg3 (hS.at _) rfl)) (fun v176 g176 => ?_)
              refine sg rfl rfl rfl (fun g => (yEql (g176.1 g) rfl)) (fun v177 g177 => ?_)
              refine sg rfl rfl rfl (fun g => (yBNe (g174.1 g) (g177.1 g) Try.underlying4)) (fun v178 g178 => ?_)
              refine sv (yOr rfl rfl (fun hB => (g178.1 hB))) ?_
              refine nil ?_
              show Code.wp _ _ _ _ _
              refine cond rfl (fun c179 => ?_) (fun c179 => ?_)
              ·
                skip
                exfalso
                have h1 : decide (xx.second = 0) = decide (o.conf = -1) := decide_eq_decide.2 hT.one
                simp [h1] at c179
              ·
                skip
                refine skip ?_
                show Code.wp _ _ _ _ _
                refine seq ?_
                refine region ?_
                refine sv (fa53_1 h11) ?_
                refine sv (yLdB rfl Try.isAgg3 (hS.at _) rfl) ?_
                refine sv (yAsg rfl) ?_
                refine nil ?_
                show Code.wp _ _ _ _ _
                refine seqJ (n := 294) (fun f w => f 1 = .slice aa acts.length ca ∧ f 2 = .pointer (some ⟨b2, 0, none⟩) ∧ f 5 = .slice (some ⟨go, 0, none⟩) (playO c acts).length co ∧ f 7 = .int .i64 (i : Int) ∧ f 11 = .pointer (some ⟨p11, 0, none⟩) ∧ f 12 = .pointer (some ⟨p12, 0, none⟩) ∧ f 13 = .slice ac c.keys.length cc ∧ f 15 = .int .i64 (if 0 < xx.second then zs.who else gg.who) ∧ StX [] w0 w [rowI (.slice ac c.keys.length cc) 3 1 c.keys.length ((keysN c acts ai).flatMap Bx.encI), blk p11 (actC gg) 53, blk p12 [.string xx.name, .int .i64 xx.grade, .int .i64 xx.second, .int .i64 xx.within, .slice axk xx.keys.length cxk, .bool xx.split] 79, blk b8 (ordC o) 55, rowI (.slice (some ⟨go, 0, none⟩) (playO c acts).length co) 55 5 (playO c acts).length ((playO c acts).flatMap ordC), blk b2 [.slice a c.ops.length cap, .slice ak c.keys.length ck, .slice an c.kinds.length cn] 26] ∧ True) ?_ ?_
                ·
                  refine seq ?_
                  refine region ?_
                  refine sv (fa79_2 h12) ?_
                  refine sv (yLdB rfl Try.isAgg3 (hS.at _) rfl) ?_
                  refine sv (yGtr rfl rfl) ?_
                  refine nil ?_
                  show Code.wp _ _ _ _ _
                  refine cond rfl (fun c184 => ?_) (fun c184 => ?_)
                  ·
                    simp only [Bool.and_eq_true, Bool.or_eq_true, Bool.and_eq_false_iff, Bool.or_eq_false_iff, decide_eq_true_eq, decide_eq_false_iff_not, Bool.not_eq_true, Bool.not_eq_false, Bool.not_not, Bool.not_eq_eq_eq_not, Bool.not_true, Bool.not_false, Bool.false_eq_true, Bool.true_eq_false, ne_eq, Decidable.not_not, not_false_eq_true, not_true_eq_false] at c184
                    obtain ⟨t1, t2, t3, t4, t5⟩ := hT.two c184
                    refine seq ?_
                    refine region ?_
                    refine sv (yMove h1) ?_
                    refine sv (yMove h9) ?_
                    refine sv (yIxa rfl hat (rfl.trans (congrArg (Value.int .i64) hai)) Try.runUnderlying37 Try.sizeOf53 (by omega) (by omega)) ?_
                    refine sv (yLdA rfl Try.isAgg53 Try.sizeOf53 (hcst.ext hS.ext) rfl) ?_
                    refine salloc hS Try.zeroValue53 rfl ?_; clear hS; intro b16 w hS
                    refine sst hS rfl rfl Try.sizeOf53 rfl rfl rfl rfl ?_; clear hS; intro w hS
                    refine nil ?_
                    show Code.wp _ _ _ _ _
                    refine seq ?_
                    refine region ?_
                    refine sv (fa53_1 rfl) ?_
                    refine sv (yLdB rfl Try.isAgg3 (hS.at _) rfl) ?_
                    refine sv (yAsg rfl) ?_
                    refine nil ?_
                    show Code.wp _ _ _ _ _
                    refine seq ?_
                    refine region ?_
                    refine sv (fa53_2 rfl) ?_
                    refine sv (yLdB rfl Try.isAgg3 (hS.at _) rfl) ?_
                    refine sv (yNeq rfl rfl) ?_
                    refine sv (yMove rfl) ?_
                    refine sg rfl rfl rfl (fun g => (fa53_3 rfl)) (fun v195 g195 => ?_)
                    refine sg rfl rfl rfl (fun g => (yLdB (g195.1 g) Try.isAgg3 (hS.at _) rfl)) (fun v196 g196 => ?_)
                    refine sg rfl rfl rfl (fun g => (fa55_0 h8)) (fun v197 g197 => ?_)
                    refine sg rfl rfl rfl (fun g => (yLdB (g197.1 g) Try.isAgg3 (hS.at _) rfl)) (fun v198 g198 => ?_)
                    refine sg rfl rfl rfl (fun g => (yNeq (g196.1 g) (g198.1 g))) (fun v199 g199 => ?_)
                    refine sv (yOr rfl rfl (fun hB => (g199.1 hB))) ?_
                    refine sv (yMove rfl) ?_
                    refine sg rfl rfl rfl (fun g => (yMove rfl)) (fun v202 g202 => ?_)
                    refine sg rfl rfl rfl (fun g => (fa53_1 h11)) (fun v203 g203 => ?_)
                    refine sg rfl rfl rfl (fun g => (yLdB (g203.1 g) Try.isAgg3 (hS.at _) rfl)) (fun v204 g204 => ?_)
                    refine sg rfl rfl rfl (fun g => (yEql (g202.1 g) (g204.1 g))) (fun v205 g205 => ?_)
                    refine sv (yOr rfl rfl (fun hB => (g205.1 hB))) ?_
                    refine sv (yMove rfl) ?_
                    refine sg rfl rfl rfl (fun g => (yLdBA h2 Try.isAgg26 Try.sizeOf26 (hS.at _) rfl rfl)) (fun v208 g208 => ?_)
                    refine sg rfl rfl rfl (fun g => (yMove rfl)) (fun v209 g209 => ?_)
                    refine sg rfl rfl rfl (fun g => (fa55_4 h8)) (fun v210 g210 => ?_)
                    refine sg rfl rfl rfl (fun g => (yLdB (g210.1 g) Try.isAgg3 (hS.at _) rfl)) (fun v211 g211 => ?_)
                    refine sg rfl rfl rfl (fun g => (fa79_2 h12)) (fun v212 g212 => ?_)
                    refine sg rfl rfl rfl (fun g => (yLdB (g212.1 g) Try.isAgg3 (hS.at _) rfl)) (fun v213 g213 => ?_)
                    refine sgc hS rfl rfl rfl Try.call31 (fun g => (.cons (g208.1 g) (.cons (g209.1 g) (.cons (g211.1 g) (.cons (g213.1 g) .nil))))) (fun g => (c_fits (h.ext hS.ext))) ?_; clear hS; intro v214 w hS g214
                    refine sg rfl rfl rfl (fun g => (yNot (g214.1 g))) (fun v215 g215 => ?_)
                    refine sv (yOr rfl rfl (fun hB => (g215.1 hB))) ?_
                    refine sv (yMove rfl) ?_
                    refine sg rfl rfl rfl (fun g => (fa55_4 h8)) (fun v218 g218 => ?_)
                    refine sg rfl rfl rfl (fun g => (yLdB (g218.1 g) Try.isAgg3 (hS.at _) rfl)) (fun v219 g219 => ?_)
                    refine sg rfl rfl rfl (fun g => (fa53_0 h11)) (fun v220 g220 => ?_)
                    refine sg rfl rfl rfl (fun g => (yLdB (g220.1 g) Try.isAgg3 (hS.at _) rfl)) (fun v221 g221 => ?_)
                    refine sg rfl rfl rfl (fun g => (ySub (g219.1 g) (g221.1 g) ⟨by omega, by omega⟩)) (fun v222 g222 => ?_)
                    refine sg rfl rfl rfl (fun g => (fa79_3 h12)) (fun v223 g223 => ?_)
                    refine sg rfl rfl rfl (fun g => (yLdB (g223.1 g) Try.isAgg3 (hS.at _) rfl)) (fun v224 g224 => ?_)
                    refine sg rfl rfl rfl (fun g => (yGtr (g222.1 g) (g224.1 g))) (fun v225 g225 => ?_)
                    refine sv (yOr rfl rfl (fun hB => (g225.1 hB))) ?_
                    refine nil ?_
                    show Code.wp _ _ _ _ _
                    refine cond rfl (fun c226 => ?_) (fun c226 => ?_)
                    ·
                      simp only [Bool.and_eq_true, Bool.or_eq_true, Bool.and_eq_false_iff, Bool.or_eq_false_iff, decide_eq_true_eq, decide_eq_false_iff_not, Bool.not_eq_true, Bool.not_eq_false, Bool.not_not, Bool.not_eq_eq_eq_not, Bool.not_true, Bool.not_false, Bool.false_eq_true, Bool.true_eq_false, ne_eq, Decidable.not_not, not_false_eq_true, not_true_eq_false] at c226
                      exfalso
                      rcases c226 with (((h1 | h1) | h1) | h1) | h1
                      · exact h1 t1
                      · exact h1 t2
                      · exact t3 h1
                      · rw [t4] at h1; cases h1
                      · omega
                    ·
                      simp only [Bool.and_eq_true, Bool.or_eq_true, Bool.and_eq_false_iff, Bool.or_eq_false_iff, decide_eq_true_eq, decide_eq_false_iff_not, Bool.not_eq_true, Bool.not_eq_false, Bool.not_not, Bool.not_eq_eq_eq_not, Bool.not_true, Bool.not_false, Bool.false_eq_true, Bool.true_eq_false, ne_eq, Decidable.not_not, not_false_eq_true, not_true_eq_false] at c226
                      refine skip ?_
                      exact ⟨_, rfl, h1, h2, h5, h7, h11, h12, rfl, rfl.trans (congrArg (Value.int .i64) (if_pos c184).symm), (hS.sub (.cons _ (List.Sublist.refl _))), trivial⟩
                  ·
                    simp only [Bool.and_eq_true, Bool.or_eq_true, Bool.and_eq_false_iff, Bool.or_eq_false_iff, decide_eq_true_eq, decide_eq_false_iff_not, Bool.not_eq_true, Bool.not_eq_false, Bool.not_not, Bool.not_eq_eq_eq_not, Bool.not_true, Bool.not_false, Bool.false_eq_true, Bool.true_eq_false, ne_eq, Decidable.not_not, not_false_eq_true, not_true_eq_false] at c184
                    refine skip ?_
                    exact ⟨_, rfl, h1, h2, h5, h7, h11, h12, rfl, rfl.trans (congrArg (Value.int .i64) (if_neg (by omega)).symm), hS, trivial⟩
                ·
                  clear hS; rintro f w ⟨h1, h2, h5, h7, h11, h12, h13, h15, hS, -⟩
                  refine seq ?_
                  refine region ?_
                  refine sv (yAsg rfl) ?_
                  refine sv (yAsg rfl) ?_
                  refine nil ?_
                  show Code.wp _ _ _ _ _
                  refine seq ?_
                  refine seq ?_
                  refine region ?_
                  refine sv (yAsg rfl) ?_
                  refine nil ?_
                  show Code.wp _ _ _ _ _
                  refine block ?_
                  refine loop (fun f w zz => ∃ (q : Nat), f 1 = .slice aa acts.length ca ∧ f 2 = .pointer (some ⟨b2, 0, none⟩) ∧ f 5 = .slice (some ⟨go, 0, none⟩) (playO c acts).length co ∧ f 7 = .int .i64 (i : Int) ∧ f 11 = .pointer (some ⟨p11, 0, none⟩) ∧ f 12 = .pointer (some ⟨p12, 0, none⟩) ∧ f 13 = .slice ac c.keys.length cc ∧ f 15 = .int .i64 (if 0 < xx.second then zs.who else gg.who) ∧ f 17 = .bool (anyH (keysN c acts ai) gg.who (xx.keys.take q)) ∧ f 18 = .bool (anyH (keysN c acts ai) (if 0 < xx.second then zs.who else gg.who) (xx.keys.take q)) ∧ f 19 = .int .i64 (q : Int) ∧ StX [] w0 w [rowI (.slice ac c.keys.length cc) 3 1 c.keys.length ((keysN c acts ai).flatMap Bx.encI), blk p11 (actC gg) 53, blk p12 [.string xx.name, .int .i64 xx.grade, .int .i64 xx.second, .int .i64 xx.within, .slice axk xx.keys.length cxk, .bool xx.split] 79, blk b8 (ordC o) 55, rowI (.slice (some ⟨go, 0, none⟩) (playO c acts).length co) 55 5 (playO c acts).length ((playO c acts).flatMap ordC), blk b2 [.slice a c.ops.length cap, .slice ak c.keys.length ck, .slice an c.kinds.length cn] 26] ∧ (q ≤ xx.keys.length) ∧ zz = xx.keys.length - q) _ ⟨_, rfl, 0, h1, h2, h5, h7, h11, h12, h13, h15, rfl, rfl, rfl, hS, (Nat.zero_le _), rfl⟩ ?_
                  clear hS
                  rintro f w _ ⟨q, h1, h2, h5, h7, h11, h12, h13, h15, h17, h18, h19, hS, hq, rfl⟩
                  refine seq ?_
                  refine seq ?_
                  refine region ?_
                  refine sv (yMove h19) ?_
                  refine sv (fa79_4 h12) ?_
                  refine sv (yLdB rfl Try.isAgg30 (hS.at _) rfl) ?_
                  refine sv (yLen rfl Try.underlying30) ?_
                  refine sv (yLss rfl rfl) ?_
                  refine nil ?_
                  show Code.wp _ _ _ _ _
                  refine cond rfl (fun c231 => ?_) (fun c231 => ?_)
                  ·
                    simp only [Bool.and_eq_true, Bool.or_eq_true, Bool.and_eq_false_iff, Bool.or_eq_false_iff, decide_eq_true_eq, decide_eq_false_iff_not, Bool.not_eq_true, Bool.not_eq_false, Bool.not_not, Bool.not_eq_eq_eq_not, Bool.not_true, Bool.not_false, Bool.false_eq_true, Bool.true_eq_false, ne_eq, Decidable.not_not, not_false_eq_true, not_true_eq_false] at c231
                    refine skip ?_
                    show Code.wp _ _ _ _ _
                    refine seq ?_
                    refine block ?_
                    refine seq ?_
                    refine region ?_
                    obtain ⟨u, hxu, hd⟩ := drop_of (l := xx.keys) (k := q) (by omega)
                    obtain ⟨b, o, cs, ha, hlen, hcs, hR⟩ := helx (q) (by omega)
                    obtain rfl : u = xx.keys[q] := (List.getElem?_eq_some_iff.1 hxu).2.symm
                    generalize xx.keys[q] = u at hxu hd hR
                    obtain ⟨rfl, hui⟩ := hR
                    refine sv (fa79_4 h12) ?_
                    refine sv (yLdB rfl Try.isAgg30 (hS.at _) rfl) ?_
                    refine sv (yMove h19) ?_
                    refine sv (yIxa rfl ha rfl Try.runUnderlying30 Try.sizeOf3 (by omega) (by omega)) ?_
                    refine sv (yLd rfl Try.isAgg3 ((hcs.ext hS.ext).one)) ?_
                    refine sv (yAsg rfl) ?_
                    refine nil ?_
                    show Code.wp _ _ _ _ _
                    refine seq ?_
                    refine seq ?_
                    refine region_draw mixed (by kernel_rfl) hS ?_
                    have hku := hT.keys u (List.mem_of_getElem? hxu)
                    obtain ⟨uu, huu⟩ := Int.eq_ofNat_of_zero_le hku.1.1
                    have hkN := (keysN_ok hE (show ai ≤ acts.length by omega)).1
                    obtain ⟨y, hy, -⟩ := drop_of (l := keysN c acts ai) (k := uu) (by omega)
                    have hyv := holdAt_nat huu hy
                    obtain ⟨gk, rfl, -⟩ := row_get (hS.row (.slice ac c.keys.length cc)) (by omega)
                    refine qv (fun w hS => (yMove rfl)) ?_
                    refine qv (fun w hS => (yLss rfl rfl)) ?_
                    refine qv (fun w hS => (yMove rfl)) ?_
                    refine qg rfl rfl rfl (fun g w hS => (yMove rfl)) (fun v242 g242 => ?_)
                    refine qg rfl rfl rfl (fun g w hS => (yMove h13)) (fun v243 g243 => ?_)
                    refine qg rfl rfl rfl (fun g w hS => (yLen (g243.1 g) Try.underlying30)) (fun v244 g244 => ?_)
                    refine qg rfl rfl rfl (fun g w hS => (yGeq (g242.1 g) (g244.1 g))) (fun v245 g245 => ?_)
                    refine qv (fun w hS => (yOr rfl rfl (fun hB => (g245.1 hB)))) ?_
                    refine qv (fun w hS => (yMove rfl)) ?_
                    refine qg rfl rfl rfl (fun g w hS => (yMove h13)) (fun v248 g248 => ?_)
                    refine qg rfl rfl rfl (fun g w hS => (yMove rfl)) (fun v249 g249 => ?_)
                    refine qg rfl rfl rfl (fun g w hS => (yIx0 (g248.1 g) ((g249.1 g).trans (congrArg (Value.int .i64) huu)) Try.runUnderlying30 Try.sizeOf3 (by omega))) (fun v250 g250 => ?_)
                    refine qg rfl rfl rfl (fun g w hS => (yLd (g250.1 g) Try.isAgg3 ((flat_cells0 (enc := Bx.encI) encI_len (row_at (hS.row (.slice (some ⟨gk, 0, none⟩) c.keys.length cc)) rfl (by omega)) hy).one))) (fun v251 g251 => ?_)
                    refine qg rfl rfl rfl (fun g w hS => (fa53_1 h11)) (fun v252 g252 => ?_)
                    refine qg rfl rfl rfl (fun g w hS => (yLdB (g252.1 g) Try.isAgg3 (hS.at _) rfl)) (fun v253 g253 => ?_)
                    refine qg rfl rfl rfl (fun g w hS => (yNeq (g251.1 g) (g253.1 g))) (fun v254 g254 => ?_)
                    refine qg rfl rfl rfl (fun g w hS => (yMove (g254.1 g))) (fun v255 g255 => ?_)
                    refine qgg rfl rfl g255 (fun g w hS => (yMove h13)) (fun v256 g256 => ?_)
                    refine qgg rfl rfl g255 (fun g w hS => (yMove rfl)) (fun v257 g257 => ?_)
                    refine qgg rfl rfl g255 (fun g w hS => (yIx0 (g256.1 g) ((g257.1 g).trans (congrArg (Value.int .i64) huu)) Try.runUnderlying30 Try.sizeOf3 (by omega))) (fun v258 g258 => ?_)
                    refine qgg rfl rfl g255 (fun g w hS => (yLd (g258.1 g) Try.isAgg3 ((flat_cells0 (enc := Bx.encI) encI_len (row_at (hS.row (.slice (some ⟨gk, 0, none⟩) c.keys.length cc)) rfl (by omega)) hy).one))) (fun v259 g259 => ?_)
                    refine qgg rfl rfl g255 (fun g w hS => (yMove h15)) (fun v260 g260 => ?_)
                    refine qgg rfl rfl g255 (fun g w hS => (yNeq (g259.1 g) (g260.1 g))) (fun v261 g261 => ?_)
                    refine qg rfl rfl rfl (fun g w hS => (yAnd (g255.1 g) (fun hB => (g261.1 ⟨g, hB⟩)) rfl)) (fun v262 g262 => ?_)
                    refine qv (fun w hS => (yOr rfl rfl (fun hB => (g262.1 hB)))) ?_
                    clear hS; refine qnil (fun w hS => ?_)
                    show Code.wp _ _ _ _ _
                    refine cond rfl (fun c263 => ?_) (fun c263 => ?_)
                    ·
                      simp only [Bool.and_eq_true, Bool.or_eq_true, Bool.and_eq_false_iff, Bool.or_eq_false_iff, decide_eq_true_eq, decide_eq_false_iff_not, Bool.not_eq_true, Bool.not_eq_false, Bool.not_not, Bool.not_eq_eq_eq_not, Bool.not_true, Bool.not_false, Bool.false_eq_true, Bool.true_eq_false, ne_eq, Decidable.not_not, not_false_eq_true, not_true_eq_false] at c263
                      exfalso
                      rw [hyv] at hku
                      rcases c263 with (h1 | h1) | h1
                      · omega
                      · omega
                      · rcases hku.2 with e | e
                        · exact h1.1 e
                        · exact h1.2 e
                    ·
                      simp only [Bool.and_eq_true, Bool.or_eq_true, Bool.and_eq_false_iff, Bool.or_eq_false_iff, decide_eq_true_eq, decide_eq_false_iff_not, Bool.not_eq_true, Bool.not_eq_false, Bool.not_not, Bool.not_eq_eq_eq_not, Bool.not_true, Bool.not_false, Bool.false_eq_true, Bool.true_eq_false, ne_eq, Decidable.not_not, not_false_eq_true, not_true_eq_false] at c263
                      refine skip ?_
                      show Code.wp _ _ _ _ _
                      refine region_draw mixed (by kernel_rfl) hS ?_
                      refine qv (fun w hS => (yMove h17)) ?_
                      refine qv (fun w hS => (yMove rfl)) ?_
                      refine qg rfl rfl rfl (fun g w hS => (yMove h13)) (fun v266 g266 => ?_)
                      refine qg rfl rfl rfl (fun g w hS => (yMove rfl)) (fun v267 g267 => ?_)
                      refine qg rfl rfl rfl (fun g w hS => (yIx0 (g266.1 g) ((g267.1 g).trans (congrArg (Value.int .i64) huu)) Try.runUnderlying30 Try.sizeOf3 (by omega))) (fun v268 g268 => ?_)
                      refine qg rfl rfl rfl (fun g w hS => (yLd (g268.1 g) Try.isAgg3 ((flat_cells0 (enc := Bx.encI) encI_len (row_at (hS.row (.slice (some ⟨gk, 0, none⟩) c.keys.length cc)) rfl (by omega)) hy).one))) (fun v269 g269 => ?_)
                      refine qg rfl rfl rfl (fun g w hS => (fa53_1 h11)) (fun v270 g270 => ?_)
                      refine qg rfl rfl rfl (fun g w hS => (yLdB (g270.1 g) Try.isAgg3 (hS.at _) rfl)) (fun v271 g271 => ?_)
                      refine qg rfl rfl rfl (fun g w hS => (yEql (g269.1 g) (g271.1 g))) (fun v272 g272 => ?_)
                      refine qv (fun w hS => (yOr rfl rfl (fun hB => (g272.1 hB)))) ?_
                      refine qv (fun w hS => (yMove h18)) ?_
                      refine qv (fun w hS => (yMove rfl)) ?_
                      refine qg rfl rfl rfl (fun g w hS => (yMove h13)) (fun v276 g276 => ?_)
                      refine qg rfl rfl rfl (fun g w hS => (yMove rfl)) (fun v277 g277 => ?_)
                      refine qg rfl rfl rfl (fun g w hS => (yIx0 (g276.1 g) ((g277.1 g).trans (congrArg (Value.int .i64) huu)) Try.runUnderlying30 Try.sizeOf3 (by omega))) (fun v278 g278 => ?_)
                      refine qg rfl rfl rfl (fun g w hS => (yLd (g278.1 g) Try.isAgg3 ((flat_cells0 (enc := Bx.encI) encI_len (row_at (hS.row (.slice (some ⟨gk, 0, none⟩) c.keys.length cc)) rfl (by omega)) hy).one))) (fun v279 g279 => ?_)
                      refine qg rfl rfl rfl (fun g w hS => (yMove h15)) (fun v280 g280 => ?_)
                      refine qg rfl rfl rfl (fun g w hS => (yEql (g279.1 g) (g280.1 g))) (fun v281 g281 => ?_)
                      refine qv (fun w hS => (yOr rfl rfl (fun hB => (g281.1 hB)))) ?_
                      refine qv (fun w hS => (yAsg rfl)) ?_
                      refine qv (fun w hS => (yAsg rfl)) ?_
                      clear hS; refine qnil (fun w hS => ?_)
                      show Code.wp _ _ _ _ _
                      refine region ?_
                      refine sv (yMove h19) ?_
                      refine sv (yAdd rfl rfl ⟨by omega, by omega⟩) ?_
                      refine sv (yAsg rfl) ?_
                      refine nil ?_
                      exact ⟨_, _, rfl, ⟨q + 1, h1, h2, h5, h7, h11, h12, h13, h15, rfl.trans (congrArg Value.bool (anyH_take hxu hyv).symm), rfl.trans (congrArg Value.bool (anyH_take hxu hyv).symm), rfl, hS, (by omega), rfl⟩, by omega⟩
                  ·
                    simp only [Bool.and_eq_true, Bool.or_eq_true, Bool.and_eq_false_iff, Bool.or_eq_false_iff, decide_eq_true_eq, decide_eq_false_iff_not, Bool.not_eq_true, Bool.not_eq_false, Bool.not_not, Bool.not_eq_eq_eq_not, Bool.not_true, Bool.not_false, Bool.false_eq_true, Bool.true_eq_false, ne_eq, Decidable.not_not, not_false_eq_true, not_true_eq_false] at c231
                    obtain rfl : q = xx.keys.length := by omega
                    refine exit ?_
                    show Code.wp _ _ _ _ _
                    refine seq ?_
                    refine region ?_
                    refine sv (fa79_5 h12) ?_
                    refine sv (yLdB rfl Try.isAgg4 (hS.at _) rfl) ?_
                    refine sv (yMove rfl) ?_
                    refine sg rfl rfl rfl (fun g => (yMove h17)) (fun v286 g286 => ?_)
                    refine sg rfl rfl rfl (fun g => (yNot (g286.1 g))) (fun v287 g287 => ?_)
                    refine sg rfl rfl rfl (fun g => (yMove (g287.1 g))) (fun v288 g288 => ?_)
                    refine sgg rfl rfl g288 (fun g => (yMove h18)) (fun v289 g289 => ?_)
                    refine sgg rfl rfl g288 (fun g => (yNot (g289.1 g))) (fun v290 g290 => ?_)
                    refine sg rfl rfl rfl (fun g => (yOr (g288.1 g) rfl (fun hB => (g290.1 ⟨g, hB⟩)))) (fun v291 g291 => ?_)
                    refine sv (yAnd rfl (fun hB => (g291.1 hB)) rfl) ?_
                    refine nil ?_
                    show Code.wp _ _ _ _ _
                    refine cond rfl (fun c292 => ?_) (fun c292 => ?_)
                    ·
                      skip
                      exfalso
                      simp only [List.take_length] at c292
                      cases hsp : xx.split with
                      | false => rw [hsp] at c292; simp at c292
                      | true =>
                        obtain ⟨e1, e2⟩ := hT.split hsp
                        rw [anyH_iff.2 e1, anyH_iff.2 e2, hsp] at c292
                        simp at c292
                    ·
                      skip
                      refine skip ?_
                      show Code.wp _ _ _ _ _
                      refine region ?_
                      refine sv (yMove h7) ?_
                      refine sv (yAdd rfl rfl ⟨by omega, by omega⟩) ?_
                      refine sv (yAsg rfl) ?_
                      refine nil ?_
                      exact ⟨_, _, rfl, ⟨i + 1, h1, h2, h5, rfl, (hS.sub (.cons _ (.cons _ (.cons _ (.cons _ (List.Sublist.refl _)))))), (by omega), rfl⟩, by omega⟩
    ·
      simp only [Bool.and_eq_true, Bool.or_eq_true, Bool.and_eq_false_iff, Bool.or_eq_false_iff, decide_eq_true_eq, decide_eq_false_iff_not, Bool.not_eq_true, Bool.not_eq_false, Bool.not_not, Bool.not_eq_eq_eq_not, Bool.not_true, Bool.not_false, Bool.false_eq_true, Bool.true_eq_false, ne_eq, Decidable.not_not, not_false_eq_true, not_true_eq_false] at c38
      refine exit ?_
      show Code.wp _ _ _ _ _
      refine seq ?_
      refine region ?_
      refine scall Try.call18 .nil c_Awake ?_
      rintro _ w ⟨rfl, hE⟩; replace hS := hS.step hE; clear hE
      refine sv (yAsg rfl) ?_
      refine nil ?_
      show Code.wp _ _ _ _ _
      refine wp_ret ?_
      exact retV (res1 rfl rfl) hS.ext
end Go.Proofs.Ytghgnofilbnbaaa
