/- Merged texts, part 4. -/
import Derived.Test.YtghgnofilbnbaaaQ3
import Derived.SizedLaws
import Derived.Test.YtghgnofilbnbaaaProg
set_option linter.all false
/- part Ck22 -/
namespace Go.Proofs.Ytghgnofilbnbaaa
open Go Bx
set_option maxHeartbeats 1000000 in
/-- barrage/crew.Plan closure 1 -/
theorem c_first {c : Crew} {s : Scr} {a an ax : Option Addr} {cap cn cps p3 p4 p10 p11 p12 b : Nat} {kv : Value} {w0 : World} (h : RCrew w0 [.slice a c.ops.length cap, kv, .slice an c.kinds.length cn] c) (hst : Sl w0 5 RStp (.slice ax s.steps.length cps) s.steps) (hok : ScrOk c s) {st : Nat} (hlt : st < s.steps.length) (HC : (∀ (m : Int) (M : List ((Int × Int) × Value)) (L : List Bx.Item) (w : World), 0 ≤ m ∧ m ≤ 100240 → MemOk c s M → StX [] w0 w ([blk p10 [.map (some b)] 100, mapI b encSp M, blk p3 [.slice a c.ops.length cap, kv, .slice an c.kinds.length cn] 26, blk p4 [.string s.name, .slice ax s.steps.length cps] 29, blk p11 [.func (.func 44) #[] ([.pointer (some ⟨p10, 0, none⟩), .pointer (some ⟨p3, 0, none⟩), .pointer (some ⟨p4, 0, none⟩), .pointer (some ⟨p12, 0, none⟩)] : List Value).toArray] 101, blk p12 [.func (.func 43) #[] ([.pointer (some ⟨p4, 0, none⟩), .pointer (some ⟨p11, 0, none⟩)] : List Value).toArray] 102] ++ L) → CE Try.prog 44 (([.int .i64 (st : Int), .int .i64 m] : List Value) ++ ([.pointer (some ⟨p10, 0, none⟩), .pointer (some ⟨p3, 0, none⟩), .pointer (some ⟨p4, 0, none⟩), .pointer (some ⟨p12, 0, none⟩)] : List Value)).toArray w (fun u w' => u = .bool (canS c s st m) ∧ ∃ M' : List ((Int × Int) × Value), MemOk c s M' ∧ StX [] w0 w' ([blk p10 [.map (some b)] 100, mapI b encSp M', blk p3 [.slice a c.ops.length cap, kv, .slice an c.kinds.length cn] 26, blk p4 [.string s.name, .slice ax s.steps.length cps] 29, blk p11 [.func (.func 44) #[] ([.pointer (some ⟨p10, 0, none⟩), .pointer (some ⟨p3, 0, none⟩), .pointer (some ⟨p4, 0, none⟩), .pointer (some ⟨p12, 0, none⟩)] : List Value).toArray] 101, blk p12 [.func (.func 43) #[] ([.pointer (some ⟨p4, 0, none⟩), .pointer (some ⟨p11, 0, none⟩)] : List Value).toArray] 102] ++ L)))) {m0 : Int} (hm0 : 0 ≤ m0 ∧ m0 ≤ 100000) {M : List ((Int × Int) × Value)} (hM : MemOk c s M) {L : List Bx.Item} {w : World} (hS : StX [] w0 w (blk p10 [.map (some b)] 100 :: mapI b encSp M :: blk p3 [.slice a c.ops.length cap, kv, .slice an c.kinds.length cn] 26 :: blk p4 [.string s.name, .slice ax s.steps.length cps] 29 :: blk p11 [.func (.func 44) #[] ([.pointer (some ⟨p10, 0, none⟩), .pointer (some ⟨p3, 0, none⟩), .pointer (some ⟨p4, 0, none⟩), .pointer (some ⟨p12, 0, none⟩)] : List Value).toArray] 101 :: blk p12 [.func (.func 43) #[] ([.pointer (some ⟨p4, 0, none⟩), .pointer (some ⟨p11, 0, none⟩)] : List Value).toArray] 102 :: L)) : CE Try.prog 43 #[.int .i64 (st : Int), .int .i64 m0, .pointer (some ⟨p4, 0, none⟩), .pointer (some ⟨p11, 0, none⟩)] w (fun u w' => u = .int .i64 (firstP c s st m0) ∧ ∃ M' : List ((Int × Int) × Value), MemOk c s M' ∧ StX [] w0 w' ([blk p10 [.map (some b)] 100, mapI b encSp M', blk p3 [.slice a c.ops.length cap, kv, .slice an c.kinds.length cn] 26, blk p4 [.string s.name, .slice ax s.steps.length cps] 29, blk p11 [.func (.func 44) #[] ([.pointer (some ⟨p10, 0, none⟩), .pointer (some ⟨p3, 0, none⟩), .pointer (some ⟨p4, 0, none⟩), .pointer (some ⟨p12, 0, none⟩)] : List Value).toArray] 101, blk p12 [.func (.func 43) #[] ([.pointer (some ⟨p4, 0, none⟩), .pointer (some ⟨p11, 0, none⟩)] : List Value).toArray] 102] ++ L)) := by
  obtain ⟨ov, kv2, nv2, he, hso, -, hsn, hrm⟩ := id h
  cases he
  obtain ⟨an', cn', hv2, hncap, hnmx, heln⟩ := id hsn
  obtain ⟨rfl, rfl⟩ := slice_inj hv2.symm
  obtain ⟨ax', cx', hv3, hacap, hamx, hels⟩ := id hst
  obtain ⟨rfl, rfl⟩ := slice_inj hv3.symm
  obtain ⟨x, hxq, hdq⟩ := drop_of (l := s.steps) (k := st) (by omega)
  obtain ⟨bq, oq, csq, haq, hlenq, hcsq, hRq⟩ := hels (st) (by omega)
  obtain rfl : x = s.steps[st] := (List.getElem?_eq_some_iff.1 hxq).2.symm
  generalize s.steps[st] = x at hxq hdq hRq
  obtain ⟨rfl, hxi⟩ := hRq
  have hx := stpAt_hit hxq
  have hsx := hok.steps st x hxq
  have hx4 := hsx.most
  have hx5 := hsx.least
  refine enter Try.func43 rfl Try.ntmps43 rfl ?_
  skip
  refine seq ?_
  refine region ?_
  refine sv (yAsg rfl) ?_
  refine nil ?_
  show Code.wp _ _ _ _ _
  refine seq ?_
  refine seq ?_
  refine region ?_
  refine sv (yMove rfl) ?_
  refine sv (fa29_1 rfl) ?_
  refine sv (yLdB rfl Try.isAgg27 (hS.at _) rfl) ?_
  refine sv (yMove rfl) ?_
  refine sv (yIxa rfl haq rfl Try.runUnderlying27 Try.sizeOf89 (by omega) (by omega)) ?_
  refine sv (fa89_3 rfl) ?_
  refine sv (yLd rfl Try.isAgg3 ((hcsq.ext hS.ext).at (j := 3) rfl)) ?_
  refine sv (yAdd rfl rfl ⟨by omega, by omega⟩) ?_
  refine sv (yAsg rfl) ?_
  refine nil ?_
  show Code.wp _ _ _ _ _
  refine block ?_
  refine loop (fun f w zz => ∃ (j : Nat) (M : List ((Int × Int) × Value)), f 0 = .int .i64 (st : Int) ∧ f 1 = .int .i64 m0 ∧ f 2 = .pointer (some ⟨p4, 0, none⟩) ∧ f 3 = .pointer (some ⟨p11, 0, none⟩) ∧ f 7 = .int .i64 (m0 + x.least + (j : Int)) ∧ StX [] w0 w (blk p10 [.map (some b)] 100 :: mapI b encSp M :: blk p3 [.slice a c.ops.length cap, kv, .slice an c.kinds.length cn] 26 :: blk p4 [.string s.name, .slice ax s.steps.length cps] 29 :: blk p11 [.func (.func 44) #[] ([.pointer (some ⟨p10, 0, none⟩), .pointer (some ⟨p3, 0, none⟩), .pointer (some ⟨p4, 0, none⟩), .pointer (some ⟨p12, 0, none⟩)] : List Value).toArray] 101 :: blk p12 [.func (.func 43) #[] ([.pointer (some ⟨p4, 0, none⟩), .pointer (some ⟨p11, 0, none⟩)] : List Value).toArray] 102 :: L) ∧ (MemOk c s M) ∧ (∀ i : Nat, i < j → canS c s st (m0 + x.least + (i : Int)) = false) ∧ (x.least + (j : Int) ≤ x.most + 1) ∧ zz = (x.most + 1 - (x.least + (j : Int))).toNat) _ ⟨_, rfl, 0, _, rfl, rfl, rfl, rfl, rfl.trans (congrArg (Value.int .i64) (Int.add_zero _).symm), hS, (hM), (fun i hi => absurd hi (Nat.not_lt_zero i)), (by omega), rfl⟩ ?_
  clear hS
  rintro f w _ ⟨j, M, h0, h1, h2, h3, h7, hS, hM, hN, hj, rfl⟩
  refine seq ?_
  refine seq ?_
  refine region ?_
  refine sv (yMove h7) ?_
  refine sv (yMove h1) ?_
  refine sv (fa29_1 h2) ?_
  refine sv (yLdB rfl Try.isAgg27 (hS.at _) rfl) ?_
  refine sv (yMove h0) ?_
  refine sv (yIxa rfl haq rfl Try.runUnderlying27 Try.sizeOf89 (by omega) (by omega)) ?_
  refine sv (fa89_4 rfl) ?_
  refine sv (yLd rfl Try.isAgg3 ((hcsq.ext hS.ext).at (j := 4) rfl)) ?_
  refine sv (yAdd rfl rfl ⟨by omega, by omega⟩) ?_
  refine sv (yLeq rfl rfl) ?_
  refine nil ?_
  show Code.wp _ _ _ _ _
  refine cond rfl (fun c25 => ?_) (fun c25 => ?_)
  ·
    simp only [Bool.and_eq_true, Bool.or_eq_true, Bool.and_eq_false_iff, Bool.or_eq_false_iff, decide_eq_true_eq, decide_eq_false_iff_not, Bool.not_eq_true, Bool.not_eq_false, Bool.not_not, Bool.not_eq_eq_eq_not, Bool.not_true, Bool.not_false, Bool.false_eq_true, Bool.true_eq_false, ne_eq, Decidable.not_not, not_false_eq_true, not_true_eq_false] at c25
    refine skip ?_
    show Code.wp _ _ _ _ _
    refine seq ?_
    refine block ?_
    refine seq ?_
    refine region ?_
    refine sv (yLdB h3 Try.isAgg101 (hS.at _) rfl) ?_
    refine sv (yMove h0) ?_
    refine sv (yMove h7) ?_
    refine scallf rfl Try.call44 (.cons rfl (.cons rfl .nil)) (HC (m0 + x.least + (j : Int)) M L _ ⟨by omega, by omega⟩ hM hS) ?_
    rintro _ w ⟨rfl, M', hM', hS2⟩; clear hS; have hS : StX [] w0 w (blk p10 [.map (some b)] 100 :: mapI b encSp M' :: blk p3 [.slice a c.ops.length cap, kv, .slice an c.kinds.length cn] 26 :: blk p4 [.string s.name, .slice ax s.steps.length cps] 29 :: blk p11 [.func (.func 44) #[] ([.pointer (some ⟨p10, 0, none⟩), .pointer (some ⟨p3, 0, none⟩), .pointer (some ⟨p4, 0, none⟩), .pointer (some ⟨p12, 0, none⟩)] : List Value).toArray] 101 :: blk p12 [.func (.func 43) #[] ([.pointer (some ⟨p4, 0, none⟩), .pointer (some ⟨p11, 0, none⟩)] : List Value).toArray] 102 :: L) := hS2; clear hS2
    refine nil ?_
    show Code.wp _ _ _ _ _
    refine cond rfl (fun c31 => ?_) (fun c31 => ?_)
    ·
      refine seq ?_
      refine region ?_
      refine sv (yMove h7) ?_
      refine sv (yAsg rfl) ?_
      refine nil ?_
      show Code.wp _ _ _ _ _
      refine wp_ret (blockR (thenR (thenR (blockR (thenR ?_)))))
      refine retQ (res1 rfl rfl) ?_
      exact ⟨by (rw [show firstP c s st m0 = m0 + x.least + (j : Int) from by unfold firstP; rw [hx]; exact firstIn_hit (by omega) c31 hN]; try rfl), M', hM', hS⟩
    ·
      refine skip ?_
      show Code.wp _ _ _ _ _
      refine region ?_
      refine sv (yMove h7) ?_
      refine sv (yAdd rfl rfl ⟨by omega, by omega⟩) ?_
      refine sv (yAsg rfl) ?_
      refine nil ?_
      exact ⟨_, _, rfl, ⟨j + 1, M', h0, h1, h2, h3, rfl.trans (congrArg (Value.int .i64) (by omega)), hS, (hM'), (snoc hN c31), (by omega), rfl⟩, by omega⟩
  ·
    simp only [Bool.and_eq_true, Bool.or_eq_true, Bool.and_eq_false_iff, Bool.or_eq_false_iff, decide_eq_true_eq, decide_eq_false_iff_not, Bool.not_eq_true, Bool.not_eq_false, Bool.not_not, Bool.not_eq_eq_eq_not, Bool.not_true, Bool.not_false, Bool.false_eq_true, Bool.true_eq_false, ne_eq, Decidable.not_not, not_false_eq_true, not_true_eq_false] at c25
    refine exit ?_
    show Code.wp _ _ _ _ _
    refine seq ?_
    refine region ?_
    refine sv (yAsg rfl) ?_
    refine nil ?_
    show Code.wp _ _ _ _ _
    refine wp_ret ?_
    refine retQ (res1 rfl rfl) ?_
    exact ⟨by (rw [show firstP c s st m0 = -1 from by unfold firstP; rw [hx]; exact firstIn_none (fun i hi => hN i (by omega))]; try rfl), M, hM, hS⟩
set_option maxHeartbeats 2000000 in
/-- barrage/crew.Plan closure 2 -/
theorem c_can {c : Crew} {s : Scr} {a an ax : Option Addr} {cap cn cps p3 p4 p10 p11 p12 b : Nat} {kv : Value} {w0 : World} (h : RCrew w0 [.slice a c.ops.length cap, kv, .slice an c.kinds.length cn] c) (hst : Sl w0 5 RStp (.slice ax s.steps.length cps) s.steps) (hok : ScrOk c s) {st : Nat} (hlt : st < s.steps.length) (HF : ∀ k : Nat, st < k → k < s.steps.length → (∀ (m : Int) (M : List ((Int × Int) × Value)) (L : List Bx.Item) (w : World), 0 ≤ m ∧ m ≤ 100000 → MemOk c s M → StX [] w0 w ([blk p10 [.map (some b)] 100, mapI b encSp M, blk p3 [.slice a c.ops.length cap, kv, .slice an c.kinds.length cn] 26, blk p4 [.string s.name, .slice ax s.steps.length cps] 29, blk p11 [.func (.func 44) #[] ([.pointer (some ⟨p10, 0, none⟩), .pointer (some ⟨p3, 0, none⟩), .pointer (some ⟨p4, 0, none⟩), .pointer (some ⟨p12, 0, none⟩)] : List Value).toArray] 101, blk p12 [.func (.func 43) #[] ([.pointer (some ⟨p4, 0, none⟩), .pointer (some ⟨p11, 0, none⟩)] : List Value).toArray] 102] ++ L) → CE Try.prog 43 (([.int .i64 (k : Int), .int .i64 m] : List Value) ++ ([.pointer (some ⟨p4, 0, none⟩), .pointer (some ⟨p11, 0, none⟩)] : List Value)).toArray w (fun u w' => u = .int .i64 (firstP c s k m) ∧ ∃ M' : List ((Int × Int) × Value), MemOk c s M' ∧ StX [] w0 w' ([blk p10 [.map (some b)] 100, mapI b encSp M', blk p3 [.slice a c.ops.length cap, kv, .slice an c.kinds.length cn] 26, blk p4 [.string s.name, .slice ax s.steps.length cps] 29, blk p11 [.func (.func 44) #[] ([.pointer (some ⟨p10, 0, none⟩), .pointer (some ⟨p3, 0, none⟩), .pointer (some ⟨p4, 0, none⟩), .pointer (some ⟨p12, 0, none⟩)] : List Value).toArray] 101, blk p12 [.func (.func 43) #[] ([.pointer (some ⟨p4, 0, none⟩), .pointer (some ⟨p11, 0, none⟩)] : List Value).toArray] 102] ++ L)))) {m : Int} (hm : 0 ≤ m ∧ m ≤ 100240) {M : List ((Int × Int) × Value)} (hM : MemOk c s M) {L : List Bx.Item} {w : World} (hS : StX [] w0 w (blk p10 [.map (some b)] 100 :: mapI b encSp M :: blk p3 [.slice a c.ops.length cap, kv, .slice an c.kinds.length cn] 26 :: blk p4 [.string s.name, .slice ax s.steps.length cps] 29 :: blk p11 [.func (.func 44) #[] ([.pointer (some ⟨p10, 0, none⟩), .pointer (some ⟨p3, 0, none⟩), .pointer (some ⟨p4, 0, none⟩), .pointer (some ⟨p12, 0, none⟩)] : List Value).toArray] 101 :: blk p12 [.func (.func 43) #[] ([.pointer (some ⟨p4, 0, none⟩), .pointer (some ⟨p11, 0, none⟩)] : List Value).toArray] 102 :: L)) : CE Try.prog 44 #[.int .i64 (st : Int), .int .i64 m, .pointer (some ⟨p10, 0, none⟩), .pointer (some ⟨p3, 0, none⟩), .pointer (some ⟨p4, 0, none⟩), .pointer (some ⟨p12, 0, none⟩)] w (fun u w' => u = .bool (canS c s st m) ∧ ∃ M' : List ((Int × Int) × Value), MemOk c s M' ∧ StX [] w0 w' ([blk p10 [.map (some b)] 100, mapI b encSp M', blk p3 [.slice a c.ops.length cap, kv, .slice an c.kinds.length cn] 26, blk p4 [.string s.name, .slice ax s.steps.length cps] 29, blk p11 [.func (.func 44) #[] ([.pointer (some ⟨p10, 0, none⟩), .pointer (some ⟨p3, 0, none⟩), .pointer (some ⟨p4, 0, none⟩), .pointer (some ⟨p12, 0, none⟩)] : List Value).toArray] 101, blk p12 [.func (.func 43) #[] ([.pointer (some ⟨p4, 0, none⟩), .pointer (some ⟨p11, 0, none⟩)] : List Value).toArray] 102] ++ L)) := by
  obtain ⟨ov, kv2, nv2, he, hso, -, hsn, hrm⟩ := id h
  cases he
  obtain ⟨an', cn', hv2, hncap, hnmx, heln⟩ := id hsn
  obtain ⟨rfl, rfl⟩ := slice_inj hv2.symm
  obtain ⟨ax', cx', hv3, hacap, hamx, hels⟩ := id hst
  obtain ⟨rfl, rfl⟩ := slice_inj hv3.symm
  obtain ⟨x, hxq, hdq⟩ := drop_of (l := s.steps) (k := st) (by omega)
  obtain ⟨bq, oq, csq, haq, hlenq, hcsq, hRq⟩ := hels (st) (by omega)
  obtain rfl : x = s.steps[st] := (List.getElem?_eq_some_iff.1 hxq).2.symm
  generalize s.steps[st] = x at hxq hdq hRq
  obtain ⟨rfl, hxi⟩ := hRq
  have hx := stpAt_hit hxq
  have hsx := hok.steps st x hxq
  have hx4 := hsx.most
  have hx5 := hsx.least
  obtain ⟨kk, hkk⟩ := Int.eq_ofNat_of_zero_le hsx.kind.1
  have hkl : kk < c.kinds.length := by have := hsx.kind; omega
  obtain ⟨z, hxt, hdt⟩ := drop_of (l := c.kinds) (k := kk) (by omega)
  obtain ⟨bt, ot, cst, hat, hlent, hcst, hRt⟩ := heln (kk) (by omega)
  obtain rfl : z = c.kinds[kk] := (List.getElem?_eq_some_iff.1 hxt).2.symm
  generalize c.kinds[kk] = z at hxt hdt hRt
  obtain ⟨xv, rfl, -⟩ := hRt
  have hz := kndAt_hit hkk hxt
  have hB0 := baseP_eq (m := m) hx hz
  refine enter Try.func44 rfl Try.ntmps44 rfl ?_
  skip
  refine seq ?_
  refine region ?_
  refine sv (yAsg rfl) ?_
  refine nil ?_
  show Code.wp _ _ _ _ _
  refine seq ?_
  refine seq ?_
  refine region ?_
  refine sv (yLdB rfl Try.isAgg100 (hS.at _) rfl) ?_
  refine sv (yMove rfl) ?_
  refine sv (yMove rfl) ?_
  refine sv (yBuild Try.zeroValue105 rfl pl105 (.cons rfl rfl (.cons rfl rfl .nil)) rfl) ?_
  refine sv (yLookOk2 encSp (k := ((st : Int), m)) rfl rfl Try.runUnderlying100 keySp Try.zeroValue4 (hS.is _) rfl) ?_
  refine sv (yMove rfl) ?_
  refine sv (yExt rfl rfl) ?_
  refine sv (yExt rfl rfl) ?_
  refine sv (yAsg rfl) ?_
  refine sv (yAsg rfl) ?_
  refine nil ?_
  show Code.wp _ _ _ _ _
  refine seq ?_
  refine region ?_
  refine sv (yMove rfl) ?_
  refine nil ?_
  show Code.wp _ _ _ _ _
  refine cond rfl (fun c22 => ?_) (fun c22 => ?_)
  ·
    refine seq ?_
    refine region ?_
    refine sv (yMove rfl) ?_
    refine sv (yAsg rfl) ?_
    refine nil ?_
    show Code.wp _ _ _ _ _
    refine wp_ret (thenR ?_)
    refine retQ (res1 rfl rfl) ?_
    exact ⟨hM.get c22, M, hM, hS⟩
  ·
    refine skip ?_
    show Code.wp _ _ _ _ _
    refine seq ?_
    refine region_draw mixed (by kernel_rfl) hS ?_
    refine qv (fun w hS => (yMove rfl)) ?_
    refine qcall Try.call42 (.cons rfl .nil) (fun w hS => c_never) ?_
    refine qv (fun w hS => (yNot rfl)) ?_
    refine qv (fun w hS => (yMove rfl)) ?_
    refine qg rfl rfl rfl (fun g w hS => (yLdBA rfl Try.isAgg26 Try.sizeOf26 (hS.at _) rfl rfl)) (fun v28 g28 => ?_)
    refine qg rfl rfl rfl (fun g w hS => (fa26_2 rfl)) (fun v29 g29 => ?_)
    refine qg rfl rfl rfl (fun g w hS => (yLdB (g29.1 g) Try.isAgg24 (hS.at _) rfl)) (fun v30 g30 => ?_)
    refine qg rfl rfl rfl (fun g w hS => (fa29_1 rfl)) (fun v31 g31 => ?_)
    refine qg rfl rfl rfl (fun g w hS => (yLdB (g31.1 g) Try.isAgg27 (hS.at _) rfl)) (fun v32 g32 => ?_)
    refine qg rfl rfl rfl (fun g w hS => (yMove rfl)) (fun v33 g33 => ?_)
    refine qg rfl rfl rfl (fun g w hS => (yIxa (g32.1 g) haq (g33.1 g) Try.runUnderlying27 Try.sizeOf89 (by omega) (by omega))) (fun v34 g34 => ?_)
    refine qg rfl rfl rfl (fun g w hS => (fa89_0 (g34.1 g))) (fun v35 g35 => ?_)
    refine qg rfl rfl rfl (fun g w hS => (yLd (g35.1 g) Try.isAgg3 ((hcsq.ext hS.ext).at (j := 0) rfl))) (fun v36 g36 => ?_)
    refine qg rfl rfl rfl (fun g w hS => (yIxa (g30.1 g) hat ((g36.1 g).trans (congrArg (Value.int .i64) hkk)) Try.runUnderlying24 Try.sizeOf79 (by omega) (by omega))) (fun v37 g37 => ?_)
    refine qg rfl rfl rfl (fun g w hS => (yLdA (g37.1 g) Try.isAgg79 Try.sizeOf79 (hcst.ext hS.ext) rfl)) (fun v38 g38 => ?_)
    refine qg rfl rfl rfl (fun g w hS => (yMove rfl)) (fun v39 g39 => ?_)
    refine qgc rfl rfl rfl Try.call45 (fun g => (.cons (g28.1 g) (.cons (g38.1 g) (.cons (g39.1 g) .nil)))) (fun g w hS => (c_able (x := z) (h.ext hS.ext))) (fun v40 g40 => ?_)
    refine qv (fun w hS => (yAnd rfl (fun hB => (g40.1 hB)) rfl)) ?_
    refine qv (fun w hS => (yAsg rfl)) ?_
    clear hS; refine qnil (fun w hS => ?_)
    show Code.wp _ _ _ _ _
    refine seq ?_
    refine seq ?_
    refine region ?_
    refine sv (fa29_1 rfl) ?_
    refine sv (yLdB rfl Try.isAgg27 (hS.at _) rfl) ?_
    refine sv (yLen rfl Try.underlying27) ?_
    refine sv (yMove rfl) ?_
    refine nil ?_
    show Code.wp _ _ _ _ _
    refine block ?_
    refine loop (fun f w zz => ∃ (k : Nat) (M : List ((Int × Int) × Value)), f 0 = .int .i64 (st : Int) ∧ f 1 = .int .i64 m ∧ f 2 = .pointer (some ⟨p10, 0, none⟩) ∧ f 5 = .pointer (some ⟨p12, 0, none⟩) ∧ f 11 = .bool (accK c s st m k) ∧ f 43 = .slice ax s.steps.length cps ∧ f 44 = .int .i64 (s.steps.length : Int) ∧ f 45 = .int .i64 (k : Int) ∧ StX [] w0 w (blk p10 [.map (some b)] 100 :: mapI b encSp M :: blk p3 [.slice a c.ops.length cap, kv, .slice an c.kinds.length cn] 26 :: blk p4 [.string s.name, .slice ax s.steps.length cps] 29 :: blk p11 [.func (.func 44) #[] ([.pointer (some ⟨p10, 0, none⟩), .pointer (some ⟨p3, 0, none⟩), .pointer (some ⟨p4, 0, none⟩), .pointer (some ⟨p12, 0, none⟩)] : List Value).toArray] 101 :: blk p12 [.func (.func 43) #[] ([.pointer (some ⟨p4, 0, none⟩), .pointer (some ⟨p11, 0, none⟩)] : List Value).toArray] 102 :: L) ∧ (MemOk c s M) ∧ (k ≤ s.steps.length) ∧ zz = s.steps.length - k) _ ⟨_, rfl, 0, _, rfl, rfl, rfl, rfl, rfl.trans (congrArg Value.bool ((accK_zero c s st m).trans hB0).symm), rfl, rfl, rfl, hS, (hM), (Nat.zero_le _), rfl⟩ ?_
    clear hS
    rintro f w _ ⟨k, M, h0, h1, h2, h5, h11, h43, h44, h45, hS, hM, hk, rfl⟩
    refine seq ?_
    refine region ?_
    refine sv (yLss h45 h44) ?_
    refine nil ?_
    show Code.wp _ _ _ _ _
    refine seq ?_
    refine cond rfl (fun c46 => ?_) (fun c46 => ?_)
    ·
      simp only [Bool.and_eq_true, Bool.or_eq_true, Bool.and_eq_false_iff, Bool.or_eq_false_iff, decide_eq_true_eq, decide_eq_false_iff_not, Bool.not_eq_true, Bool.not_eq_false, Bool.not_not, Bool.not_eq_eq_eq_not, Bool.not_true, Bool.not_false, Bool.false_eq_true, Bool.true_eq_false, ne_eq, Decidable.not_not, not_false_eq_true, not_true_eq_false] at c46
      refine skip ?_
      show Code.wp _ _ _ _ _
      refine seq ?_
      refine block ?_
      refine seq ?_
      refine region ?_
      refine sv (yMove h45) ?_
      obtain ⟨y, hxv, hdv⟩ := drop_of (l := s.steps) (k := k) (by omega)
      obtain ⟨bv, ov, csv, hav, hlenv, hcsv, hRv⟩ := hels (k) (by omega)
      obtain rfl : y = s.steps[k] := (List.getElem?_eq_some_iff.1 hxv).2.symm
      generalize s.steps[k] = y at hxv hdv hRv
      obtain ⟨rfl, hyi⟩ := hRv
      have hyk := stpAt_hit hxv
      have hsy := hok.steps k y hxv
      refine sv (yIxa h43 hav h45 Try.runUnderlying27 Try.sizeOf89 (by omega) (by omega)) ?_
      refine sv (yLdA rfl Try.isAgg89 Try.sizeOf89 (hcsv.ext hS.ext) rfl) ?_
      refine salloc hS Try.zeroValue89 rfl ?_; clear hS; intro b13 w hS
      refine sv (yAsg rfl) ?_
      refine sst hS rfl rfl Try.sizeOf89 rfl rfl rfl rfl ?_; clear hS; intro w hS
      refine nil ?_
      show Code.wp _ _ _ _ _
      refine region ?_
      replace hS : StX [] w0 w (blk b13 [.int .i64 y.kind, .int .i64 y.subj, .int .i64 y.after, .int .i64 y.least, .int .i64 y.most] 89 :: blk p10 [.map (some b)] 100 :: mapI b encSp M :: blk p3 [.slice a c.ops.length cap, kv, .slice an c.kinds.length cn] 26 :: blk p4 [.string s.name, .slice ax s.steps.length cps] 29 :: blk p11 [.func (.func 44) #[] ([.pointer (some ⟨p10, 0, none⟩), .pointer (some ⟨p3, 0, none⟩), .pointer (some ⟨p4, 0, none⟩), .pointer (some ⟨p12, 0, none⟩)] : List Value).toArray] 101 :: blk p12 [.func (.func 43) #[] ([.pointer (some ⟨p4, 0, none⟩), .pointer (some ⟨p11, 0, none⟩)] : List Value).toArray] 102 :: L) := hS
      refine sv (yMove h11) ?_
      refine sv (yMove rfl) ?_
      refine sg rfl rfl rfl (fun g => (fa89_2 rfl)) (fun v52 g52 => ?_)
      refine sg rfl rfl rfl (fun g => (yLdB (g52.1 g) Try.isAgg3 (hS.at _) rfl)) (fun v53 g53 => ?_)
      refine sg rfl rfl rfl (fun g => (yMove h0)) (fun v54 g54 => ?_)
      refine sg rfl rfl rfl (fun g => (yNeq (g53.1 g) (g54.1 g))) (fun v55 g55 => ?_)
      refine sg rfl rfl rfl (fun g => (yMove (g55.1 g))) (fun v56 g56 => ?_)
      refine sgg rfl rfl g56 (fun g => (yLdB h5 Try.isAgg102 (hS.at _) rfl)) (fun v57 g57 => ?_)
      refine sgg rfl rfl g56 (fun g => (yMove rfl)) (fun v58 g58 => ?_)
      refine sgg rfl rfl g56 (fun g => (yMove h1)) (fun v59 g59 => ?_)
      refine sggR (v := .int .i64 (firstP c s k m)) (fun w' => ∃ M' : List ((Int × Int) × Value), MemOk c s M' ∧ StX [] w0 w' (blk p10 [.map (some b)] 100 :: mapI b encSp M' :: blk p3 [.slice a c.ops.length cap, kv, .slice an c.kinds.length cn] 26 :: blk p4 [.string s.name, .slice ax s.steps.length cps] 29 :: blk p11 [.func (.func 44) #[] ([.pointer (some ⟨p10, 0, none⟩), .pointer (some ⟨p3, 0, none⟩), .pointer (some ⟨p4, 0, none⟩), .pointer (some ⟨p12, 0, none⟩)] : List Value).toArray] 101 :: blk p12 [.func (.func 43) #[] ([.pointer (some ⟨p4, 0, none⟩), .pointer (some ⟨p11, 0, none⟩)] : List Value).toArray] 102 :: blk b13 [.int .i64 y.kind, .int .i64 y.subj, .int .i64 y.after, .int .i64 y.least, .int .i64 y.most] 89 :: L)) ⟨M, hM, front1 (R := [blk p10 [.map (some b)] 100, mapI b encSp M, blk p3 [.slice a c.ops.length cap, kv, .slice an c.kinds.length cn] 26, blk p4 [.string s.name, .slice ax s.steps.length cps] 29, blk p11 [.func (.func 44) #[] ([.pointer (some ⟨p10, 0, none⟩), .pointer (some ⟨p3, 0, none⟩), .pointer (some ⟨p4, 0, none⟩), .pointer (some ⟨p12, 0, none⟩)] : List Value).toArray] 101, blk p12 [.func (.func 43) #[] ([.pointer (some ⟨p4, 0, none⟩), .pointer (some ⟨p11, 0, none⟩)] : List Value).toArray] 102]) hS⟩ rfl rfl g56 (fun g => (g57.1 g)) Try.call43 (fun g => (.cons (g58.1 g) (.cons (g59.1 g) .nil))) (fun g => HF k (by have h1 := of_decide_eq_false g.2; have h2 := hsy.after; omega) (by omega) m M _ _ (accK_never g.1) hM (front1 (R := [blk p10 [.map (some b)] 100, mapI b encSp M, blk p3 [.slice a c.ops.length cap, kv, .slice an c.kinds.length cn] 26, blk p4 [.string s.name, .slice ax s.steps.length cps] 29, blk p11 [.func (.func 44) #[] ([.pointer (some ⟨p10, 0, none⟩), .pointer (some ⟨p3, 0, none⟩), .pointer (some ⟨p4, 0, none⟩), .pointer (some ⟨p12, 0, none⟩)] : List Value).toArray] 101, blk p12 [.func (.func 43) #[] ([.pointer (some ⟨p4, 0, none⟩), .pointer (some ⟨p11, 0, none⟩)] : List Value).toArray] 102]) hS)) ?_; clear hS; rintro v60 w ⟨M', hM', hS⟩ g60
      refine sgg rfl rfl g56 (fun g => (yGeq (g60.1 g) rfl)) (fun v61 g61 => ?_)
      refine sg rfl rfl rfl (fun g => (yOr (g56.1 g) rfl (fun hB => (g61.1 ⟨g, hB⟩)))) (fun v62 g62 => ?_)
      refine sv (yAnd rfl (fun hB => (g62.1 hB)) rfl) ?_
      refine sv (yAsg rfl) ?_
      refine nil ?_
      show Code.wp _ _ _ _ _
      refine region ?_
      refine sv (yAdd h45 rfl ⟨by omega, by omega⟩) ?_
      refine sv (yMove rfl) ?_
      refine nil ?_
      exact ⟨_, _, rfl, ⟨k + 1, M', h0, h1, h2, h5, rfl.trans (congrArg Value.bool (accK_succ hyk).symm), h43, h44, rfl, (hS.sub (.cons_cons _ (.cons_cons _ (.cons_cons _ (.cons_cons _ (.cons_cons _ (.cons_cons _ (.cons _ (List.Sublist.refl _))))))))) , (hM'), (by omega), rfl⟩, by omega⟩
    ·
      simp only [Bool.and_eq_true, Bool.or_eq_true, Bool.and_eq_false_iff, Bool.or_eq_false_iff, decide_eq_true_eq, decide_eq_false_iff_not, Bool.not_eq_true, Bool.not_eq_false, Bool.not_not, Bool.not_eq_eq_eq_not, Bool.not_true, Bool.not_false, Bool.false_eq_true, Bool.true_eq_false, ne_eq, Decidable.not_not, not_false_eq_true, not_true_eq_false] at c46
      refine exit ?_
      show Code.wp _ _ _ _ _
      refine seq ?_
      refine region ?_
      refine sv (yLdB h2 Try.isAgg100 (hS.at _) rfl) ?_
      refine sv (yMove h0) ?_
      refine sv (yMove h1) ?_
      refine sv (yBuild Try.zeroValue105 rfl pl105 (.cons rfl rfl (.cons rfl rfl .nil)) rfl) ?_
      refine sv (yMove h11) ?_
      obtain rfl : k = s.steps.length := by omega
      refine smapset2 encSp (k := ((st : Int), m)) (v := .bool (accK c s st m s.steps.length)) hS rfl rfl rfl Try.runUnderlying100 keySp ?_; clear hS; intro w hS
      refine nil ?_
      show Code.wp _ _ _ _ _
      refine seq ?_
      refine region ?_
      refine sv (yMove h11) ?_
      refine sv (yAsg rfl) ?_
      refine nil ?_
      show Code.wp _ _ _ _ _
      refine wp_ret ?_
      refine retQ (res1 rfl rfl) ?_
      have hfl := accK_full hok.steps hlt m
      exact ⟨by (rw [← hfl]; try rfl), _, hM.set hfl, hS⟩
end Go.Proofs.Ytghgnofilbnbaaa
/- part C12 -/
namespace Go.Proofs.Ytghgnofilbnbaaa
open Go Bx
theorem all_can {c : Crew} {s : Scr} {a an ax : Option Addr} {cap cn cps p3 p4 p10 p11 p12 b : Nat} {kv : Value} {w0 : World} (h : RCrew w0 [.slice a c.ops.length cap, kv, .slice an c.kinds.length cn] c) (hst : Sl w0 5 RStp (.slice ax s.steps.length cps) s.steps) (hok : ScrOk c s)  : ∀ (d st : Nat), st < s.steps.length → s.steps.length - st ≤ d → (∀ (m : Int) (M : List ((Int × Int) × Value)) (L : List Bx.Item) (w : World), 0 ≤ m ∧ m ≤ 100240 → MemOk c s M → StX [] w0 w ([blk p10 [.map (some b)] 100, mapI b encSp M, blk p3 [.slice a c.ops.length cap, kv, .slice an c.kinds.length cn] 26, blk p4 [.string s.name, .slice ax s.steps.length cps] 29, blk p11 [.func (.func 44) #[] ([.pointer (some ⟨p10, 0, none⟩), .pointer (some ⟨p3, 0, none⟩), .pointer (some ⟨p4, 0, none⟩), .pointer (some ⟨p12, 0, none⟩)] : List Value).toArray] 101, blk p12 [.func (.func 43) #[] ([.pointer (some ⟨p4, 0, none⟩), .pointer (some ⟨p11, 0, none⟩)] : List Value).toArray] 102] ++ L) → CE Try.prog 44 (([.int .i64 (st : Int), .int .i64 m] : List Value) ++ ([.pointer (some ⟨p10, 0, none⟩), .pointer (some ⟨p3, 0, none⟩), .pointer (some ⟨p4, 0, none⟩), .pointer (some ⟨p12, 0, none⟩)] : List Value)).toArray w (fun u w' => u = .bool (canS c s st m) ∧ ∃ M' : List ((Int × Int) × Value), MemOk c s M' ∧ StX [] w0 w' ([blk p10 [.map (some b)] 100, mapI b encSp M', blk p3 [.slice a c.ops.length cap, kv, .slice an c.kinds.length cn] 26, blk p4 [.string s.name, .slice ax s.steps.length cps] 29, blk p11 [.func (.func 44) #[] ([.pointer (some ⟨p10, 0, none⟩), .pointer (some ⟨p3, 0, none⟩), .pointer (some ⟨p4, 0, none⟩), .pointer (some ⟨p12, 0, none⟩)] : List Value).toArray] 101, blk p12 [.func (.func 43) #[] ([.pointer (some ⟨p4, 0, none⟩), .pointer (some ⟨p11, 0, none⟩)] : List Value).toArray] 102] ++ L))) := by
  intro d
  induction d using Nat.strongRecOn with
  | _ D ih =>
    intro st hlt hd m M L w hm hM hS
    refine c_can h hst hok hlt (fun k hk hkn m' M' L' w' hm' hM' hS' => ?_) hm hM hS
    exact c_first h hst hok hkn (ih (D - 1) (by omega) k hkn (by omega)) hm' hM' hS'
theorem all_first {c : Crew} {s : Scr} {a an ax : Option Addr} {cap cn cps p3 p4 p10 p11 p12 b : Nat} {kv : Value} {w0 : World} (h : RCrew w0 [.slice a c.ops.length cap, kv, .slice an c.kinds.length cn] c) (hst : Sl w0 5 RStp (.slice ax s.steps.length cps) s.steps) (hok : ScrOk c s)  {st : Nat} (hlt : st < s.steps.length) : (∀ (m : Int) (M : List ((Int × Int) × Value)) (L : List Bx.Item) (w : World), 0 ≤ m ∧ m ≤ 100000 → MemOk c s M → StX [] w0 w ([blk p10 [.map (some b)] 100, mapI b encSp M, blk p3 [.slice a c.ops.length cap, kv, .slice an c.kinds.length cn] 26, blk p4 [.string s.name, .slice ax s.steps.length cps] 29, blk p11 [.func (.func 44) #[] ([.pointer (some ⟨p10, 0, none⟩), .pointer (some ⟨p3, 0, none⟩), .pointer (some ⟨p4, 0, none⟩), .pointer (some ⟨p12, 0, none⟩)] : List Value).toArray] 101, blk p12 [.func (.func 43) #[] ([.pointer (some ⟨p4, 0, none⟩), .pointer (some ⟨p11, 0, none⟩)] : List Value).toArray] 102] ++ L) → CE Try.prog 43 (([.int .i64 (st : Int), .int .i64 m] : List Value) ++ ([.pointer (some ⟨p4, 0, none⟩), .pointer (some ⟨p11, 0, none⟩)] : List Value)).toArray w (fun u w' => u = .int .i64 (firstP c s st m) ∧ ∃ M' : List ((Int × Int) × Value), MemOk c s M' ∧ StX [] w0 w' ([blk p10 [.map (some b)] 100, mapI b encSp M', blk p3 [.slice a c.ops.length cap, kv, .slice an c.kinds.length cn] 26, blk p4 [.string s.name, .slice ax s.steps.length cps] 29, blk p11 [.func (.func 44) #[] ([.pointer (some ⟨p10, 0, none⟩), .pointer (some ⟨p3, 0, none⟩), .pointer (some ⟨p4, 0, none⟩), .pointer (some ⟨p12, 0, none⟩)] : List Value).toArray] 101, blk p12 [.func (.func 43) #[] ([.pointer (some ⟨p4, 0, none⟩), .pointer (some ⟨p11, 0, none⟩)] : List Value).toArray] 102] ++ L))) :=
  fun m M L w hm hM hS => c_first h hst hok hlt (all_can h hst hok _ st hlt (Nat.le_refl _)) hm hM hS
theorem permP {α : Type} {a b c d e f : α} {L : List α} : (a :: b :: c :: d :: e :: f :: L).Perm (c :: d :: f :: e :: b :: a :: L) :=
  (List.perm_append_comm_assoc [a, b] [c, d, e, f] L).trans (.cons _ (.cons _ ((List.Perm.swap _ _ _).trans (.cons _ (.cons _ (.swap _ _ _))))))
theorem befP_yes {start : Int} {l : List Int} {x : Stp} (h : 0 ≤ x.after) : Value.int .i64 (l.getD (x.after.toNat * 1) 0) = .int .i64 (befP start l x) := by unfold befP; rw [if_pos h, Nat.mul_one]
theorem befP_no {start : Int} {l : List Int} {x : Stp} (h : ¬ 0 ≤ x.after) : Value.int .i64 start = .int .i64 (befP start l x) := by unfold befP; rw [if_neg h]
end Go.Proofs.Ytghgnofilbnbaaa
/- part Ck23 -/
namespace Go.Proofs.Ytghgnofilbnbaaa
open Go Bx
set_option maxHeartbeats 4000000 in
/-- barrage/crew.Plan -/
theorem c_Plan {c : Crew} {cs ss : List Value} {s : Scr} {w0 : World} (h : RCrew w0 cs c) (hs : RScr w0 ss s) {start : Int} : CE Try.prog 15 #[.agg cs.toArray, .agg ss.toArray, .int .i64 start] w0 (fun u w' => ∃ lv, u = .tuple #[lv, .int .i64 (planE c s start)] ∧ St w0 w' [rowI lv 3 1 (planL c s start).length ((planL c s start).flatMap Bx.encI)]) := by
  obtain ⟨ov, kv, nv, rfl, hso, hsk, hsn, hrm⟩ := id h
  obtain ⟨a, cap, rfl, hcap, hmx, hel⟩ := id hso
  obtain ⟨ak, ck, rfl, hkcap, hkmx, -⟩ := id hsk
  obtain ⟨an, cn, rfl, hncap, hnmx, -⟩ := id hsn
  obtain ⟨sv, rfl, hsz, hst⟩ := id hs
  obtain ⟨ax, cps, rfl, hscap, hsmx, hels⟩ := id hst
  refine enter Try.func15 rfl Try.ntmps15 rfl ?_
  have hS := St.start w0
  refine seq ?_
  refine region ?_
  refine sbox hS rfl rfl ?_; clear hS; intro b3 w hS
  refine sbox hS rfl rfl ?_; clear hS; intro b4 w hS
  refine sv (yAsg rfl) ?_
  refine sv (yAsg rfl) ?_
  refine nil ?_
  show Code.wp _ _ _ _ _
  refine seq ?_
  refine seq ?_
  refine region ?_
  refine sv (yLdBA rfl Try.isAgg26 Try.sizeOf26 (hS.at _) rfl rfl) ?_
  refine sv (yLdBA rfl Try.isAgg29 Try.sizeOf29 (hS.at _) rfl rfl) ?_
  refine scall Try.call23 (.cons rfl (.cons rfl .nil)) (c_CheckScript (h.ext hS.ext) (hs.ext hS.ext)) ?_
  rintro _ w ⟨rfl, hE⟩; replace hS := hS.step hE; clear hE
  refine sv (yMove rfl) ?_
  refine sv (yExt rfl rfl) ?_
  refine sv (yExt rfl rfl) ?_
  refine sv (yAsg rfl) ?_
  refine sv (yAsg rfl) ?_
  refine nil ?_
  show Code.wp _ _ _ _ _
  refine seq ?_
  refine region ?_
  refine sv (yMove rfl) ?_
  refine sv (yNeq rfl rfl) ?_
  refine nil ?_
  show Code.wp _ _ _ _ _
  refine cond rfl (fun c25 => ?_) (fun c25 => ?_)
  ·
    simp only [Bool.and_eq_true, Bool.or_eq_true, Bool.and_eq_false_iff, Bool.or_eq_false_iff, decide_eq_true_eq, decide_eq_false_iff_not, Bool.not_eq_true, Bool.not_eq_false, Bool.not_not, Bool.not_eq_eq_eq_not, Bool.not_true, Bool.not_false, Bool.false_eq_true, Bool.true_eq_false, ne_eq, Decidable.not_not, not_false_eq_true, not_true_eq_false] at c25
    refine seq ?_
    refine region ?_
    refine sv (yMove rfl) ?_
    refine sv (yAsg rfl) ?_
    refine sv (yAsg rfl) ?_
    refine nil ?_
    show Code.wp _ _ _ _ _
    refine wp_ret (thenR ?_)
    refine retQ (res2 rfl rfl rfl) ?_
    exact ⟨_, by (rw [(planE_bad c25).1]; try rfl), by rw [(planE_bad c25).2]; exact (hS.nilrow 3 1).sub (.cons_cons _ (List.nil_sublist _))⟩
  ·
    simp only [Bool.and_eq_true, Bool.or_eq_true, Bool.and_eq_false_iff, Bool.or_eq_false_iff, decide_eq_true_eq, decide_eq_false_iff_not, Bool.not_eq_true, Bool.not_eq_false, Bool.not_not, Bool.not_eq_eq_eq_not, Bool.not_true, Bool.not_false, Bool.false_eq_true, Bool.true_eq_false, ne_eq, Decidable.not_not, not_false_eq_true, not_true_eq_false] at c25
    have hok := scrOk_of c25
    have hlen := hok.len
    refine skip ?_
    show Code.wp _ _ _ _ _
    refine seq ?_
    refine seq ?_
    refine region ?_
    refine sv (yMove rfl) ?_
    refine scall Try.call42 (.cons rfl .nil) c_never ?_
    rintro _ w ⟨rfl, hE⟩; replace hS := hS.step hE; clear hE
    refine nil ?_
    show Code.wp _ _ _ _ _
    refine cond rfl (fun c28 => ?_) (fun c28 => ?_)
    ·
      refine seq ?_
      refine region ?_
      refine sv (yAsg rfl) ?_
      refine sv (yAsg rfl) ?_
      refine nil ?_
      show Code.wp _ _ _ _ _
      refine wp_ret (thenR ?_)
      refine retQ (res2 rfl rfl rfl) ?_
      exact ⟨_, by (rw [(planE_never c25 c28).1]; try rfl), by rw [(planE_never c25 c28).2]; exact (hS.nilrow 3 1).sub (.cons_cons _ (List.nil_sublist _))⟩
    ·
      refine skip ?_
      show Code.wp _ _ _ _ _
      refine seq ?_
      refine region ?_
      refine smkmap encSp hS ?_; clear hS; intro b29 w hS
      refine salloc hS Try.zeroValue100 rfl ?_; clear hS; intro b10 w hS
      refine sst hS rfl rfl Try.sizeOf100 rfl rfl rfl rfl ?_; clear hS; intro w hS
      refine nil ?_
      show Code.wp _ _ _ _ _
      refine seq ?_
      refine region ?_
      refine salloc hS Try.zeroValue101 rfl ?_; clear hS; intro b11 w hS
      refine nil ?_
      show Code.wp _ _ _ _ _
      refine seq ?_
      refine region ?_
      refine sv (yFn (.cons rfl (.cons rfl .nil))) ?_
      refine salloc hS Try.zeroValue102 rfl ?_; clear hS; intro b12 w hS
      refine sst hS rfl rfl Try.sizeOf102 rfl rfl rfl rfl ?_; clear hS; intro w hS
      refine nil ?_
      show Code.wp _ _ _ _ _
      refine seq ?_
      refine region ?_
      refine sv (yFn (.cons rfl (.cons rfl (.cons rfl (.cons rfl .nil))))) ?_
      refine sst hS rfl rfl Try.sizeOf101 rfl rfl rfl rfl ?_; clear hS; intro w hS
      refine nil ?_
      show Code.wp _ _ _ _ _
      refine seq ?_
      refine region ?_
      replace hS := hS.perm permP
      replace hS : StX [] w0 w (blk b10 [.map (some b29)] 100 :: mapI b29 encSp [] :: blk b3 [.slice a c.ops.length cap, .slice ak c.keys.length ck, .slice an c.kinds.length cn] 26 :: blk b4 [.string s.name, .slice ax s.steps.length cps] 29 :: blk b11 [.func (.func 44) #[] ([.pointer (some ⟨b10, 0, none⟩), .pointer (some ⟨b3, 0, none⟩), .pointer (some ⟨b4, 0, none⟩), .pointer (some ⟨b12, 0, none⟩)] : List Value).toArray] 101 :: blk b12 [.func (.func 43) #[] ([.pointer (some ⟨b4, 0, none⟩), .pointer (some ⟨b11, 0, none⟩)] : List Value).toArray] 102 :: []) := hS
      replace hS := hS.nilrow 3 1
      have hnv := outB_false.1 c28
      refine sv (yAsg rfl) ?_
      refine nil ?_
      show Code.wp _ _ _ _ _
      refine seq ?_
      refine seq ?_
      refine region ?_
      refine sv (fa29_1 rfl) ?_
      refine sv (yLdB rfl Try.isAgg27 (hS.at _) rfl) ?_
      refine sv (yLen rfl Try.underlying27) ?_
      refine sv (yMove rfl) ?_
      refine nil ?_
      show Code.wp _ _ _ _ _
      refine block ?_
      refine loop (fun f w zz => ∃ (k : Nat) (l : List Int) (lv : Value) (M : List ((Int × Int) × Value)), f 2 = .int .i64 start ∧ f 12 = .pointer (some ⟨b12, 0, none⟩) ∧ f 13 = lv ∧ f 33 = .slice ax s.steps.length cps ∧ f 34 = .int .i64 (s.steps.length : Int) ∧ f 35 = .int .i64 (k : Int) ∧ StX [] w0 w [rowI lv 3 1 l.length (l.flatMap Bx.encI), blk b10 [.map (some b29)] 100, mapI b29 encSp M, blk b3 [.slice a c.ops.length cap, .slice ak c.keys.length ck, .slice an c.kinds.length cn] 26, blk b4 [.string s.name, .slice ax s.steps.length cps] 29, blk b11 [.func (.func 44) #[] ([.pointer (some ⟨b10, 0, none⟩), .pointer (some ⟨b3, 0, none⟩), .pointer (some ⟨b4, 0, none⟩), .pointer (some ⟨b12, 0, none⟩)] : List Value).toArray] 101, blk b12 [.func (.func 43) #[] ([.pointer (some ⟨b4, 0, none⟩), .pointer (some ⟨b11, 0, none⟩)] : List Value).toArray] 102] ∧ (k ≤ s.steps.length) ∧ (l.length = k) ∧ (MemOk c s M) ∧ (∀ y ∈ l, 0 ≤ y ∧ y ≤ 100000) ∧ (planR c s start s.steps 0 [] = planR c s start (s.steps.drop k) k l) ∧ zz = s.steps.length - k) _ ⟨_, rfl, 0, [], _, [], rfl, rfl, rfl, rfl, rfl, rfl, hS, (Nat.zero_le _), (rfl), (MemOk.nil c s), (fun y hy => (List.not_mem_nil hy).elim), (rfl), rfl⟩ ?_
      clear hS
      rintro f w _ ⟨k, l, lv, M, h2, h12, h13, h33, h34, h35, hS, hk, hl, hM, hbd, hP, rfl⟩
      refine seq ?_
      refine region ?_
      refine sv (yLss h35 h34) ?_
      refine nil ?_
      show Code.wp _ _ _ _ _
      refine seq ?_
      refine cond rfl (fun c36 => ?_) (fun c36 => ?_)
      ·
        simp only [Bool.and_eq_true, Bool.or_eq_true, Bool.and_eq_false_iff, Bool.or_eq_false_iff, decide_eq_true_eq, decide_eq_false_iff_not, Bool.not_eq_true, Bool.not_eq_false, Bool.not_not, Bool.not_eq_eq_eq_not, Bool.not_true, Bool.not_false, Bool.false_eq_true, Bool.true_eq_false, ne_eq, Decidable.not_not, not_false_eq_true, not_true_eq_false] at c36
        refine skip ?_
        show Code.wp _ _ _ _ _
        refine seq ?_
        refine block ?_
        refine seq ?_
        refine region ?_
        refine sv (yMove h35) ?_
        obtain ⟨y, hxv, hdv⟩ := drop_of (l := s.steps) (k := k) (by omega)
        obtain ⟨bv, ov, csv, hav, hlenv, hcsv, hRv⟩ := hels (k) (by omega)
        obtain rfl : y = s.steps[k] := (List.getElem?_eq_some_iff.1 hxv).2.symm
        generalize s.steps[k] = y at hxv hdv hRv
        obtain ⟨rfl, hyi⟩ := hRv
        have hsy := hok.steps k y hxv
        have hya := hsy.after
        refine sv (yIxa h33 hav h35 Try.runUnderlying27 Try.sizeOf89 (by omega) (by omega)) ?_
        refine sv (yLdA rfl Try.isAgg89 Try.sizeOf89 (hcsv.ext hS.ext) rfl) ?_
        refine salloc hS Try.zeroValue89 rfl ?_; clear hS; intro b15 w hS
        refine sv (yAsg rfl) ?_
        refine sst hS rfl rfl Try.sizeOf89 rfl rfl rfl rfl ?_; clear hS; intro w hS
        refine nil ?_
        show Code.wp _ _ _ _ _
        refine seq ?_
        refine region ?_
        replace hS : StX [] w0 w (blk b15 [.int .i64 y.kind, .int .i64 y.subj, .int .i64 y.after, .int .i64 y.least, .int .i64 y.most] 89 :: rowI lv 3 1 l.length (l.flatMap Bx.encI) :: blk b10 [.map (some b29)] 100 :: mapI b29 encSp M :: blk b3 [.slice a c.ops.length cap, .slice ak c.keys.length ck, .slice an c.kinds.length cn] 26 :: blk b4 [.string s.name, .slice ax s.steps.length cps] 29 :: blk b11 [.func (.func 44) #[] ([.pointer (some ⟨b10, 0, none⟩), .pointer (some ⟨b3, 0, none⟩), .pointer (some ⟨b4, 0, none⟩), .pointer (some ⟨b12, 0, none⟩)] : List Value).toArray] 101 :: blk b12 [.func (.func 43) #[] ([.pointer (some ⟨b4, 0, none⟩), .pointer (some ⟨b11, 0, none⟩)] : List Value).toArray] 102 :: []) := hS
        refine sv (yMove h2) ?_
        refine sv (yAsg rfl) ?_
        refine nil ?_
        show Code.wp _ _ _ _ _
        refine seqJ (n := 61) (fun f w => f 2 = .int .i64 start ∧ f 12 = .pointer (some ⟨b12, 0, none⟩) ∧ f 13 = lv ∧ f 14 = .int .i64 (k : Int) ∧ f 16 = .int .i64 (befP start l y) ∧ f 33 = .slice ax s.steps.length cps ∧ f 34 = .int .i64 (s.steps.length : Int) ∧ f 35 = .int .i64 (k : Int) ∧ StX [] w0 w [blk b15 [.int .i64 y.kind, .int .i64 y.subj, .int .i64 y.after, .int .i64 y.least, .int .i64 y.most] 89, rowI lv 3 1 l.length (l.flatMap Bx.encI), blk b10 [.map (some b29)] 100, mapI b29 encSp M, blk b3 [.slice a c.ops.length cap, .slice ak c.keys.length ck, .slice an c.kinds.length cn] 26, blk b4 [.string s.name, .slice ax s.steps.length cps] 29, blk b11 [.func (.func 44) #[] ([.pointer (some ⟨b10, 0, none⟩), .pointer (some ⟨b3, 0, none⟩), .pointer (some ⟨b4, 0, none⟩), .pointer (some ⟨b12, 0, none⟩)] : List Value).toArray] 101, blk b12 [.func (.func 43) #[] ([.pointer (some ⟨b4, 0, none⟩), .pointer (some ⟨b11, 0, none⟩)] : List Value).toArray] 102] ∧ True) ?_ ?_
        ·
          refine seq ?_
          refine region ?_
          refine sv (fa89_2 rfl) ?_
          refine sv (yLdB rfl Try.isAgg3 (hS.at _) rfl) ?_
          refine sv (yGeq rfl rfl) ?_
          refine nil ?_
          show Code.wp _ _ _ _ _
          refine cond rfl (fun c43 => ?_) (fun c43 => ?_)
          ·
            simp only [Bool.and_eq_true, Bool.or_eq_true, Bool.and_eq_false_iff, Bool.or_eq_false_iff, decide_eq_true_eq, decide_eq_false_iff_not, Bool.not_eq_true, Bool.not_eq_false, Bool.not_not, Bool.not_eq_eq_eq_not, Bool.not_true, Bool.not_false, Bool.false_eq_true, Bool.true_eq_false, ne_eq, Decidable.not_not, not_false_eq_true, not_true_eq_false] at c43
            refine region ?_
            refine sv (yMove h13) ?_
            refine sv (fa89_2 rfl) ?_
            refine sv (yLdB rfl Try.isAgg3 (hS.at _) rfl) ?_
            obtain ⟨g, chl, rfl, -⟩ := row_some (hS.row lv) (by omega)
            refine sv (yIx rfl rfl Try.runUnderlying30 Try.sizeOf3 (by omega) (by omega)) ?_
            refine sv (yLd rfl Try.isAgg3 ((row_at (hS.row (.slice (some ⟨g, 0, none⟩) l.length chl)) rfl (by omega)).at (j := y.after.toNat * 1) (flatI_get (by omega)))) ?_
            refine sv (yAsg rfl) ?_
            refine nil ?_
            exact ⟨_, rfl, h2, h12, h13, rfl, rfl.trans (befP_yes c43), h33, h34, h35, hS, trivial⟩
          ·
            simp only [Bool.and_eq_true, Bool.or_eq_true, Bool.and_eq_false_iff, Bool.or_eq_false_iff, decide_eq_true_eq, decide_eq_false_iff_not, Bool.not_eq_true, Bool.not_eq_false, Bool.not_not, Bool.not_eq_eq_eq_not, Bool.not_true, Bool.not_false, Bool.false_eq_true, Bool.true_eq_false, ne_eq, Decidable.not_not, not_false_eq_true, not_true_eq_false] at c43
            refine skip ?_
            exact ⟨_, rfl, h2, h12, h13, rfl, rfl.trans (befP_no c43), h33, h34, h35, hS, trivial⟩
        ·
          clear hS; rintro f w ⟨h2, h12, h13, h14, h16, h33, h34, h35, hS, -⟩
          refine seq ?_
          refine region ?_
          refine sv (yLdB h12 Try.isAgg102 (hS.at _) rfl) ?_
          refine sv (yMove h14) ?_
          refine sv (yMove h16) ?_
          refine scallf rfl Try.call43 (.cons rfl (.cons rfl .nil)) (all_first h hst hok (show k < s.steps.length by omega) (befP start l y) M _ _ (befP_bd hnv hbd) hM (front2 (R := [blk b10 [.map (some b29)] 100, mapI b29 encSp M, blk b3 [.slice a c.ops.length cap, .slice ak c.keys.length ck, .slice an c.kinds.length cn] 26, blk b4 [.string s.name, .slice ax s.steps.length cps] 29, blk b11 [.func (.func 44) #[] ([.pointer (some ⟨b10, 0, none⟩), .pointer (some ⟨b3, 0, none⟩), .pointer (some ⟨b4, 0, none⟩), .pointer (some ⟨b12, 0, none⟩)] : List Value).toArray] 101, blk b12 [.func (.func 43) #[] ([.pointer (some ⟨b4, 0, none⟩), .pointer (some ⟨b11, 0, none⟩)] : List Value).toArray] 102]) hS)) ?_
          rintro _ w ⟨rfl, M', hM', hS2⟩; clear hS; have hS : StX [] w0 w (blk b15 [.int .i64 y.kind, .int .i64 y.subj, .int .i64 y.after, .int .i64 y.least, .int .i64 y.most] 89 :: rowI lv 3 1 l.length (l.flatMap Bx.encI) :: blk b10 [.map (some b29)] 100 :: mapI b29 encSp M' :: blk b3 [.slice a c.ops.length cap, .slice ak c.keys.length ck, .slice an c.kinds.length cn] 26 :: blk b4 [.string s.name, .slice ax s.steps.length cps] 29 :: blk b11 [.func (.func 44) #[] ([.pointer (some ⟨b10, 0, none⟩), .pointer (some ⟨b3, 0, none⟩), .pointer (some ⟨b4, 0, none⟩), .pointer (some ⟨b12, 0, none⟩)] : List Value).toArray] 101 :: blk b12 [.func (.func 43) #[] ([.pointer (some ⟨b4, 0, none⟩), .pointer (some ⟨b11, 0, none⟩)] : List Value).toArray] 102 :: []) := unfront2 hS2; clear hS2
          refine sv (yAsg rfl) ?_
          refine nil ?_
          show Code.wp _ _ _ _ _
          refine seq ?_
          refine seq ?_
          refine region ?_
          refine sv (yMove rfl) ?_
          refine sv (yLss rfl rfl) ?_
          refine nil ?_
          show Code.wp _ _ _ _ _
          refine cond rfl (fun c54 => ?_) (fun c54 => ?_)
          ·
            simp only [Bool.and_eq_true, Bool.or_eq_true, Bool.and_eq_false_iff, Bool.or_eq_false_iff, decide_eq_true_eq, decide_eq_false_iff_not, Bool.not_eq_true, Bool.not_eq_false, Bool.not_not, Bool.not_eq_eq_eq_not, Bool.not_true, Bool.not_false, Bool.false_eq_true, Bool.true_eq_false, ne_eq, Decidable.not_not, not_false_eq_true, not_true_eq_false] at c54
            refine seq ?_
            refine region ?_
            refine sv (yAsg rfl) ?_
            refine sv (yAsg rfl) ?_
            refine nil ?_
            show Code.wp _ _ _ _ _
            refine wp_ret (thenR (blockR (thenR (thenR (blockR (thenR ?_))))))
            refine retQ (res2 rfl rfl rfl) ?_
            exact ⟨_, by (rw [(planE_none c25 c28 (by rw [hP, hdv, planR_cons, if_pos c54])).1]; try rfl), by rw [(planE_none c25 c28 (by rw [hP, hdv, planR_cons, if_pos c54])).2]; exact (hS.nilrow 3 1).sub (.cons_cons _ (List.nil_sublist _))⟩
          ·
            simp only [Bool.and_eq_true, Bool.or_eq_true, Bool.and_eq_false_iff, Bool.or_eq_false_iff, decide_eq_true_eq, decide_eq_false_iff_not, Bool.not_eq_true, Bool.not_eq_false, Bool.not_not, Bool.not_eq_eq_eq_not, Bool.not_true, Bool.not_false, Bool.false_eq_true, Bool.true_eq_false, ne_eq, Decidable.not_not, not_false_eq_true, not_true_eq_false] at c54
            refine skip ?_
            show Code.wp _ _ _ _ _
            refine region ?_
            refine sv (yMove h13) ?_
            refine sv (yMove rfl) ?_
            refine sbslice hS Try.underlying30 Try.sizeOf3 rfl Try.zeroValue3 rfl (.cons rfl rfl .nil) rfl ?_; clear hS; intro b57 w hS
            refine sapp (bytes := 8) (size := 1) (v := lv) (m := 1) hS rfl rfl Try.underlying30 ti3 rfl rfl rfl rfl (by decide) (blk_cells (hS.at _)) rfl rfl (by omega) (by omega) ?_; clear hS; intro v58 w hS
            refine sv (yAsg rfl) ?_
            refine nil ?_
            show Code.wp _ _ _ _ _
            refine region ?_
            refine sv (yAdd h35 rfl ⟨by omega, by omega⟩) ?_
            refine sv (yMove rfl) ?_
            refine nil ?_
            have hfb := firstP_bd hok.steps (show k < s.steps.length by omega) (b := befP start l y) c54
            exact ⟨_, _, rfl, ⟨k + 1, l ++ [firstP c s k (befP start l y)], v58, M', h2, h12, rfl, h33, h34, rfl, (by rw [List.flatMap_append, List.length_append]; exact hS.sub (.cons _ (.cons _ (List.Sublist.refl _)))), (by omega), (by simp [hl]), (hM'), (fun z hz => by rcases List.mem_append.1 hz with hz | hz; exact hbd z hz; rw [List.mem_singleton.1 hz]; exact hfb), (by rw [hP, hdv, planR_cons, if_neg c54]), rfl⟩, by omega⟩
      ·
        simp only [Bool.and_eq_true, Bool.or_eq_true, Bool.and_eq_false_iff, Bool.or_eq_false_iff, decide_eq_true_eq, decide_eq_false_iff_not, Bool.not_eq_true, Bool.not_eq_false, Bool.not_not, Bool.not_eq_eq_eq_not, Bool.not_true, Bool.not_false, Bool.false_eq_true, Bool.true_eq_false, ne_eq, Decidable.not_not, not_false_eq_true, not_true_eq_false] at c36
        refine exit ?_
        show Code.wp _ _ _ _ _
        refine seq ?_
        refine region ?_
        refine sv (yMove h13) ?_
        refine sv (yAsg rfl) ?_
        refine sv (yAsg rfl) ?_
        refine nil ?_
        show Code.wp _ _ _ _ _
        refine wp_ret ?_
        refine retQ (res2 rfl rfl rfl) ?_
        obtain rfl : k = s.steps.length := by omega
        have hfin := planE_some c25 c28 (l := l) (by rw [hP, List.drop_length]; rfl)
        exact ⟨lv, by (rw [hfin.1]; try rfl), by rw [hfin.2]; exact hS.sub (.cons_cons _ (List.nil_sublist _))⟩
end Go.Proofs.Ytghgnofilbnbaaa
/- part C13 -/
namespace Bx
open Go Go.RowKit
def exO1 : Opr := ⟨⟨#[97, 110, 110]⟩, 5, [⟨0, 600⟩]⟩
def exO2 : Opr := ⟨⟨#[98, 111, 98]⟩, 3, [⟨0, 300⟩, ⟨400, 600⟩]⟩
def exO3 : Opr := ⟨⟨#[101, 118, 101]⟩, 4, [⟨200, 600⟩]⟩
def exK1 : Knd := ⟨⟨#[108, 111, 111, 107]⟩, 1, 0, 0, [], false⟩
def exK2 : Knd := ⟨⟨#[99, 108, 111, 115, 101]⟩, 4, 3, 10, [0, 1], true⟩
def exC : Crew := ⟨[exO1, exO2, exO3], [⟨#[114, 101, 100]⟩, ⟨#[98, 108, 117, 101]⟩], [exK1, exK2]⟩
def exA : List Acn := [⟨10, 0, 1, 0, 0, 0⟩, ⟨11, 1, 1, 1, 0, 0⟩, ⟨12, 0, 4, 1, 0, 7⟩, ⟨13, 0, 5, 2, 0, 0⟩, ⟨22, 1, 5, 2, 0, 0⟩, ⟨22, 1, 5, 2, 0, 0⟩, ⟨23, 1, 4, 1, 0, 8⟩, ⟨20, 0, 4, 0, 0, 0⟩, ⟨310, 0, 1, 1, 0, 0⟩]
def exS : Scr := ⟨⟨#[100, 114, 105, 108, 108]⟩, [⟨1, 7, -1, 0, 30⟩, ⟨0, 1, 0, 5, 20⟩, ⟨1, 9, 1, 60, 90⟩]⟩
theorem ex_play : playE exC exA = 0 ∧ playL exC exA = [0, 0, 0, 204, 0, 206, 203, 200, 0] := by decide +kernel
theorem ex_plan : planE exC exS 500 = 0 ∧ planL exC exS 500 = [500, 505, 565] := by decide +kernel
theorem ex_down : planE exC exS 560 = 9 := by decide +kernel
end Bx
/- part Ck24 -/
namespace Go.Proofs.Ytghgnofilbnbaaa
open Go Bx
/-- barrage/barrageref02.Ints -/
theorem c_Ints {la lb : List Int} {va vb : Value} {w0 : World} (ha : Sl w0 1 RInt va la) (hb : Sl w0 1 RInt vb lb) : CV Try.prog 17 #[va, vb] w0 (.bool (decide (la = lb))) := by
  obtain ⟨aa, ca, rfl, hca, hma, hela⟩ := ha
  obtain ⟨ab, cb, rfl, hcb, hmb, helb⟩ := hb
  refine enter Try.func17 rfl Try.ntmps17 rfl ?_
  have hS := St.start w0
  refine seq ?_
  refine region ?_
  refine sv (yAsg rfl) ?_
  refine nil ?_
  show Code.wp _ _ _ _ _
  refine seq ?_
  refine seq ?_
  refine region ?_
  refine sv (yMove rfl) ?_
  refine sv (yLen rfl Try.underlying30) ?_
  refine sv (yMove rfl) ?_
  refine sv (yLen rfl Try.underlying30) ?_
  refine sv (yNeq rfl rfl) ?_
  refine nil ?_
  show Code.wp _ _ _ _ _
  refine cond rfl (fun c10 => ?_) (fun c10 => ?_)
  ·
    simp only [Bool.and_eq_true, Bool.or_eq_true, Bool.and_eq_false_iff, Bool.or_eq_false_iff, decide_eq_true_eq, decide_eq_false_iff_not, Bool.not_eq_true, Bool.not_eq_false, Bool.not_not, Bool.not_eq_eq_eq_not, Bool.not_true, Bool.not_false, Bool.false_eq_true, Bool.true_eq_false, ne_eq, Decidable.not_not, not_false_eq_true, not_true_eq_false] at c10
    refine seq ?_
    refine region ?_
    refine sv (yAsg rfl) ?_
    refine nil ?_
    show Code.wp _ _ _ _ _
    refine wp_ret (thenR ?_)
    exact retV (res1 rfl (eqB (by rw [decide_eq_false (fun h => by rw [h] at c10; exact c10 rfl)]))) hS.ext
  ·
    simp only [Bool.and_eq_true, Bool.or_eq_true, Bool.and_eq_false_iff, Bool.or_eq_false_iff, decide_eq_true_eq, decide_eq_false_iff_not, Bool.not_eq_true, Bool.not_eq_false, Bool.not_not, Bool.not_eq_eq_eq_not, Bool.not_true, Bool.not_false, Bool.false_eq_true, Bool.true_eq_false, ne_eq, Decidable.not_not, not_false_eq_true, not_true_eq_false] at c10
    refine skip ?_
    show Code.wp _ _ _ _ _
    refine seq ?_
    refine seq ?_
    refine region ?_
    refine sv (yAsg rfl) ?_
    refine nil ?_
    show Code.wp _ _ _ _ _
    refine block ?_
    refine loop (fun f w zz => ∃ (k : Nat), f 0 = .slice aa la.length ca ∧ f 1 = .slice ab lb.length cb ∧ f 5 = .int .i64 (k : Int) ∧ StX [] w0 w [] ∧ (k ≤ la.length) ∧ (∀ i, i < k → la[i]? = lb[i]?) ∧ zz = la.length - k) _ ⟨_, rfl, 0, rfl, rfl, rfl, hS, (Nat.zero_le _), (fun i hi => absurd hi (Nat.not_lt_zero i)), rfl⟩ ?_
    clear hS
    rintro f w _ ⟨k, h0, h1, h5, hS, hk, hI, rfl⟩
    refine seq ?_
    refine seq ?_
    refine region ?_
    refine sv (yMove h5) ?_
    refine sv (yMove h0) ?_
    refine sv (yLen rfl Try.underlying30) ?_
    refine sv (yLss rfl rfl) ?_
    refine nil ?_
    show Code.wp _ _ _ _ _
    refine cond rfl (fun c14 => ?_) (fun c14 => ?_)
    ·
      simp only [Bool.and_eq_true, Bool.or_eq_true, Bool.and_eq_false_iff, Bool.or_eq_false_iff, decide_eq_true_eq, decide_eq_false_iff_not, Bool.not_eq_true, Bool.not_eq_false, Bool.not_not, Bool.not_eq_eq_eq_not, Bool.not_true, Bool.not_false, Bool.false_eq_true, Bool.true_eq_false, ne_eq, Decidable.not_not, not_false_eq_true, not_true_eq_false] at c14
      obtain ⟨x, hx, hd⟩ := drop_of (l := la) (k := k) (by omega)
      obtain ⟨b, o, cs, ha, hlen, hcs, hR⟩ := hela (k) (by omega)
      obtain rfl : x = la[k] := (List.getElem?_eq_some_iff.1 hx).2.symm
      generalize la[k] = x at hx hd hR
      obtain ⟨rfl, _⟩ := hR
      obtain ⟨y, hxq, hdq⟩ := drop_of (l := lb) (k := k) (by omega)
      obtain ⟨bq, oq, csq, haq, hlenq, hcsq, hRq⟩ := helb (k) (by omega)
      obtain rfl : y = lb[k] := (List.getElem?_eq_some_iff.1 hxq).2.symm
      generalize lb[k] = y at hxq hdq hRq
      obtain ⟨rfl, _⟩ := hRq
      refine skip ?_
      show Code.wp _ _ _ _ _
      refine seq ?_
      refine block ?_
      refine seq ?_
      refine region_draw mixed (by kernel_rfl) hS ?_
      refine qv (fun w hS => (yMove h0)) ?_
      refine qv (fun w hS => (yMove h5)) ?_
      refine qv (fun w hS => (yIxa rfl ha rfl Try.runUnderlying30 Try.sizeOf3 (by omega) (by omega))) ?_
      refine qv (fun w hS => (yLd rfl Try.isAgg3 ((hcs.ext hS.ext).one))) ?_
      refine qv (fun w hS => (yMove h1)) ?_
      refine qv (fun w hS => (yMove h5)) ?_
      refine qv (fun w hS => (yIxa rfl haq rfl Try.runUnderlying30 Try.sizeOf3 (by omega) (by omega))) ?_
      refine qv (fun w hS => (yLd rfl Try.isAgg3 ((hcsq.ext hS.ext).one))) ?_
      refine qv (fun w hS => (yNeq rfl rfl)) ?_
      clear hS; refine qnil (fun w hS => ?_)
      show Code.wp _ _ _ _ _
      refine cond rfl (fun c25 => ?_) (fun c25 => ?_)
      ·
        simp only [Bool.and_eq_true, Bool.or_eq_true, Bool.and_eq_false_iff, Bool.or_eq_false_iff, decide_eq_true_eq, decide_eq_false_iff_not, Bool.not_eq_true, Bool.not_eq_false, Bool.not_not, Bool.not_eq_eq_eq_not, Bool.not_true, Bool.not_false, Bool.false_eq_true, Bool.true_eq_false, ne_eq, Decidable.not_not, not_false_eq_true, not_true_eq_false] at c25
        have hne : x ≠ y := fun h => by subst h; simp at c25
        refine seq ?_
        refine region ?_
        refine sv (yAsg rfl) ?_
        refine nil ?_
        show Code.wp _ _ _ _ _
        refine wp_ret (blockR (thenR (thenR (blockR (thenR ?_)))))
        exact retV (res1 rfl (eqB (by rw [decide_eq_false (ne_of_get hx hxq hne)]))) hS.ext
      ·
        simp only [Bool.and_eq_true, Bool.or_eq_true, Bool.and_eq_false_iff, Bool.or_eq_false_iff, decide_eq_true_eq, decide_eq_false_iff_not, Bool.not_eq_true, Bool.not_eq_false, Bool.not_not, Bool.not_eq_eq_eq_not, Bool.not_true, Bool.not_false, Bool.false_eq_true, Bool.true_eq_false, ne_eq, Decidable.not_not, not_false_eq_true, not_true_eq_false] at c25
        have hxy : x = y := c25
        refine skip ?_
        show Code.wp _ _ _ _ _
        refine region ?_
        refine sv (yMove h5) ?_
        refine sv (yAdd rfl rfl ⟨by omega, by omega⟩) ?_
        refine sv (yAsg rfl) ?_
        refine nil ?_
        exact ⟨_, _, rfl, ⟨k + 1, h0, h1, rfl, hS, (by omega), (snoc hI (by rw [hx, hxq, hxy])), rfl⟩, by omega⟩
    ·
      simp only [Bool.and_eq_true, Bool.or_eq_true, Bool.and_eq_false_iff, Bool.or_eq_false_iff, decide_eq_true_eq, decide_eq_false_iff_not, Bool.not_eq_true, Bool.not_eq_false, Bool.not_not, Bool.not_eq_eq_eq_not, Bool.not_true, Bool.not_false, Bool.false_eq_true, Bool.true_eq_false, ne_eq, Decidable.not_not, not_false_eq_true, not_true_eq_false] at c14
      refine exit ?_
      show Code.wp _ _ _ _ _
      refine seq ?_
      refine region ?_
      refine sv (yAsg rfl) ?_
      refine nil ?_
      show Code.wp _ _ _ _ _
      refine wp_ret ?_
      exact retV (res1 rfl (eqB (by rw [decide_eq_true (eq_of_get (by omega) (fun i hi => hI i (by omega)))]))) hS.ext
/-- barrage/barragelaw10.errors -/
theorem c_errors {la lb : List Int} {va vb : Value} {w0 : World} (ha : Sl w0 1 RInt va la) (hb : Sl w0 1 RInt vb lb) : CV Try.prog 21 #[va, vb] w0 (.bool (decide (la = lb))) := by
  obtain ⟨aa, ca, rfl, hca, hma, hela⟩ := ha
  obtain ⟨ab, cb, rfl, hcb, hmb, helb⟩ := hb
  refine enter Try.func21 rfl Try.ntmps21 rfl ?_
  have hS := St.start w0
  refine seq ?_
  refine region ?_
  refine sv (yAsg rfl) ?_
  refine nil ?_
  show Code.wp _ _ _ _ _
  refine seq ?_
  refine seq ?_
  refine region ?_
  refine sv (yMove rfl) ?_
  refine sv (yLen rfl Try.underlying49) ?_
  refine sv (yMove rfl) ?_
  refine sv (yLen rfl Try.underlying49) ?_
  refine sv (yNeq rfl rfl) ?_
  refine nil ?_
  show Code.wp _ _ _ _ _
  refine cond rfl (fun c10 => ?_) (fun c10 => ?_)
  ·
    simp only [Bool.and_eq_true, Bool.or_eq_true, Bool.and_eq_false_iff, Bool.or_eq_false_iff, decide_eq_true_eq, decide_eq_false_iff_not, Bool.not_eq_true, Bool.not_eq_false, Bool.not_not, Bool.not_eq_eq_eq_not, Bool.not_true, Bool.not_false, Bool.false_eq_true, Bool.true_eq_false, ne_eq, Decidable.not_not, not_false_eq_true, not_true_eq_false] at c10
    refine seq ?_
    refine region ?_
    refine sv (yAsg rfl) ?_
    refine nil ?_
    show Code.wp _ _ _ _ _
    refine wp_ret (thenR ?_)
    exact retV (res1 rfl (eqB (by rw [decide_eq_false (fun h => by rw [h] at c10; exact c10 rfl)]))) hS.ext
  ·
    simp only [Bool.and_eq_true, Bool.or_eq_true, Bool.and_eq_false_iff, Bool.or_eq_false_iff, decide_eq_true_eq, decide_eq_false_iff_not, Bool.not_eq_true, Bool.not_eq_false, Bool.not_not, Bool.not_eq_eq_eq_not, Bool.not_true, Bool.not_false, Bool.false_eq_true, Bool.true_eq_false, ne_eq, Decidable.not_not, not_false_eq_true, not_true_eq_false] at c10
    refine skip ?_
    show Code.wp _ _ _ _ _
    refine seq ?_
    refine seq ?_
    refine region ?_
    refine sv (yAsg rfl) ?_
    refine nil ?_
    show Code.wp _ _ _ _ _
    refine block ?_
    refine loop (fun f w zz => ∃ (k : Nat), f 0 = .slice aa la.length ca ∧ f 1 = .slice ab lb.length cb ∧ f 5 = .int .i64 (k : Int) ∧ StX [] w0 w [] ∧ (k ≤ la.length) ∧ (∀ i, i < k → la[i]? = lb[i]?) ∧ zz = la.length - k) _ ⟨_, rfl, 0, rfl, rfl, rfl, hS, (Nat.zero_le _), (fun i hi => absurd hi (Nat.not_lt_zero i)), rfl⟩ ?_
    clear hS
    rintro f w _ ⟨k, h0, h1, h5, hS, hk, hI, rfl⟩
    refine seq ?_
    refine seq ?_
    refine region ?_
    refine sv (yMove h5) ?_
    refine sv (yMove h0) ?_
    refine sv (yLen rfl Try.underlying49) ?_
    refine sv (yLss rfl rfl) ?_
    refine nil ?_
    show Code.wp _ _ _ _ _
    refine cond rfl (fun c14 => ?_) (fun c14 => ?_)
    ·
      simp only [Bool.and_eq_true, Bool.or_eq_true, Bool.and_eq_false_iff, Bool.or_eq_false_iff, decide_eq_true_eq, decide_eq_false_iff_not, Bool.not_eq_true, Bool.not_eq_false, Bool.not_not, Bool.not_eq_eq_eq_not, Bool.not_true, Bool.not_false, Bool.false_eq_true, Bool.true_eq_false, ne_eq, Decidable.not_not, not_false_eq_true, not_true_eq_false] at c14
      obtain ⟨x, hx, hd⟩ := drop_of (l := la) (k := k) (by omega)
      obtain ⟨b, o, cs, ha, hlen, hcs, hR⟩ := hela (k) (by omega)
      obtain rfl : x = la[k] := (List.getElem?_eq_some_iff.1 hx).2.symm
      generalize la[k] = x at hx hd hR
      obtain ⟨rfl, _⟩ := hR
      obtain ⟨y, hxq, hdq⟩ := drop_of (l := lb) (k := k) (by omega)
      obtain ⟨bq, oq, csq, haq, hlenq, hcsq, hRq⟩ := helb (k) (by omega)
      obtain rfl : y = lb[k] := (List.getElem?_eq_some_iff.1 hxq).2.symm
      generalize lb[k] = y at hxq hdq hRq
      obtain ⟨rfl, _⟩ := hRq
      refine skip ?_
      show Code.wp _ _ _ _ _
      refine seq ?_
      refine block ?_
      refine seq ?_
      refine region_draw mixed (by kernel_rfl) hS ?_
      refine qv (fun w hS => (yMove h0)) ?_
      refine qv (fun w hS => (yMove h5)) ?_
      refine qv (fun w hS => (yIxa rfl ha rfl Try.runUnderlying49 Try.sizeOf31 (by omega) (by omega))) ?_
      refine qv (fun w hS => (yLd rfl Try.isAgg31 ((hcs.ext hS.ext).one))) ?_
      refine qv (fun w hS => (yMove h1)) ?_
      refine qv (fun w hS => (yMove h5)) ?_
      refine qv (fun w hS => (yIxa rfl haq rfl Try.runUnderlying49 Try.sizeOf31 (by omega) (by omega))) ?_
      refine qv (fun w hS => (yLd rfl Try.isAgg31 ((hcsq.ext hS.ext).one))) ?_
      refine qv (fun w hS => (yNeq rfl rfl)) ?_
      clear hS; refine qnil (fun w hS => ?_)
      show Code.wp _ _ _ _ _
      refine cond rfl (fun c25 => ?_) (fun c25 => ?_)
      ·
        simp only [Bool.and_eq_true, Bool.or_eq_true, Bool.and_eq_false_iff, Bool.or_eq_false_iff, decide_eq_true_eq, decide_eq_false_iff_not, Bool.not_eq_true, Bool.not_eq_false, Bool.not_not, Bool.not_eq_eq_eq_not, Bool.not_true, Bool.not_false, Bool.false_eq_true, Bool.true_eq_false, ne_eq, Decidable.not_not, not_false_eq_true, not_true_eq_false] at c25
        have hne : x ≠ y := fun h => by subst h; simp at c25
        refine seq ?_
        refine region ?_
        refine sv (yAsg rfl) ?_
        refine nil ?_
        show Code.wp _ _ _ _ _
        refine wp_ret (blockR (thenR (thenR (blockR (thenR ?_)))))
        exact retV (res1 rfl (eqB (by rw [decide_eq_false (ne_of_get hx hxq hne)]))) hS.ext
      ·
        simp only [Bool.and_eq_true, Bool.or_eq_true, Bool.and_eq_false_iff, Bool.or_eq_false_iff, decide_eq_true_eq, decide_eq_false_iff_not, Bool.not_eq_true, Bool.not_eq_false, Bool.not_not, Bool.not_eq_eq_eq_not, Bool.not_true, Bool.not_false, Bool.false_eq_true, Bool.true_eq_false, ne_eq, Decidable.not_not, not_false_eq_true, not_true_eq_false] at c25
        have hxy : x = y := c25
        refine skip ?_
        show Code.wp _ _ _ _ _
        refine region ?_
        refine sv (yMove h5) ?_
        refine sv (yAdd rfl rfl ⟨by omega, by omega⟩) ?_
        refine sv (yAsg rfl) ?_
        refine nil ?_
        exact ⟨_, _, rfl, ⟨k + 1, h0, h1, rfl, hS, (by omega), (snoc hI (by rw [hx, hxq, hxy])), rfl⟩, by omega⟩
    ·
      simp only [Bool.and_eq_true, Bool.or_eq_true, Bool.and_eq_false_iff, Bool.or_eq_false_iff, decide_eq_true_eq, decide_eq_false_iff_not, Bool.not_eq_true, Bool.not_eq_false, Bool.not_not, Bool.not_eq_eq_eq_not, Bool.not_true, Bool.not_false, Bool.false_eq_true, Bool.true_eq_false, ne_eq, Decidable.not_not, not_false_eq_true, not_true_eq_false] at c14
      refine exit ?_
      show Code.wp _ _ _ _ _
      refine seq ?_
      refine region ?_
      refine sv (yAsg rfl) ?_
      refine nil ?_
      show Code.wp _ _ _ _ _
      refine wp_ret ?_
      exact retV (res1 rfl (eqB (by rw [decide_eq_true (eq_of_get (by omega) (fun i hi => hI i (by omega)))]))) hS.ext
end Go.Proofs.Ytghgnofilbnbaaa
/- part Ck25 -/
namespace Go.Proofs.Ytghgnofilbnbaaa
open Go Bx
set_option maxHeartbeats 4000000 in
/-- barrage/barragelaw10.Example -/
theorem c_Example {w0 : World} : CE Try.prog 39 #[] w0 (fun u w' => ∃ cs : List Value, u = .agg cs.toArray ∧ RCrew w' cs exC ∧ Ext w0 w') := by
  refine enter Try.func39 rfl Try.ntmps39 rfl ?_
  have hS := St.start w0
  refine seq ?_
  refine region ?_
  refine salloc hS Try.zeroValue26 rfl ?_; clear hS; intro b0 w hS
  refine nil ?_
  show Code.wp _ _ _ _ _
  refine seq ?_
  refine region ?_
  refine sv (yBuild Try.zeroValue44 rfl pl44 (.cons rfl rfl .nil) rfl) ?_
  refine sbslice hS Try.underlying40 Try.sizeOf44 rfl Try.zeroValue44 rfl (.cons rfl rfl .nil) rfl ?_; clear hS; intro b2 w hS
  refine sv (yBuild Try.zeroValue42 rfl pl42 (.cons rfl rfl (.cons rfl rfl (.cons rfl rfl .nil))) rfl) ?_
  refine sv (yBuild Try.zeroValue44 rfl pl44 (.cons rfl rfl .nil) rfl) ?_
  refine sv (yBuild Try.zeroValue44 rfl pl44 (.cons rfl rfl (.cons rfl rfl .nil)) rfl) ?_
  refine sbslice hS Try.underlying40 Try.sizeOf44 rfl Try.zeroValue44 rfl (.cons rfl rfl (.cons rfl rfl .nil)) rfl ?_; clear hS; intro b6 w hS
  refine sv (yBuild Try.zeroValue42 rfl pl42 (.cons rfl rfl (.cons rfl rfl (.cons rfl rfl .nil))) rfl) ?_
  refine sv (yBuild Try.zeroValue44 rfl pl44 (.cons rfl rfl (.cons rfl rfl .nil)) rfl) ?_
  refine sbslice hS Try.underlying40 Try.sizeOf44 rfl Try.zeroValue44 rfl (.cons rfl rfl .nil) rfl ?_; clear hS; intro b9 w hS
  refine sv (yBuild Try.zeroValue42 rfl pl42 (.cons rfl rfl (.cons rfl rfl (.cons rfl rfl .nil))) rfl) ?_
  refine sbslice hS Try.underlying22 Try.sizeOf42 rfl Try.zeroValue42 rfl (.cons rfl rfl (.cons rfl rfl (.cons rfl rfl .nil))) rfl ?_; clear hS; intro b11 w hS
  refine sbslice hS Try.underlying23 Try.sizeOf9 rfl Try.zeroValue9 rfl (.cons rfl rfl (.cons rfl rfl .nil)) rfl ?_; clear hS; intro b12 w hS
  refine sv (yBuild Try.zeroValue79 rfl pl79 (.cons rfl rfl (.cons rfl rfl .nil)) rfl) ?_
  refine sbslice hS Try.underlying30 Try.sizeOf3 rfl Try.zeroValue3 rfl (.cons rfl rfl (.cons rfl rfl .nil)) rfl ?_; clear hS; intro b14 w hS
  refine sv (yBuild Try.zeroValue79 rfl pl79 (.cons rfl rfl (.cons rfl rfl (.cons rfl rfl (.cons rfl rfl (.cons rfl rfl (.cons rfl rfl .nil)))))) rfl) ?_
  refine sbslice hS Try.underlying24 Try.sizeOf79 rfl Try.zeroValue79 rfl (.cons rfl rfl (.cons rfl rfl .nil)) rfl ?_; clear hS; intro b16 w hS
  refine sv (yBuild Try.zeroValue26 rfl pl26 (.cons rfl rfl (.cons rfl rfl (.cons rfl rfl .nil))) rfl) ?_
  refine sst hS rfl rfl Try.sizeOf26 rfl rfl rfl rfl ?_; clear hS; intro w hS
  refine nil ?_
  show Code.wp _ _ _ _ _
  refine wp_ret ?_
  refine retQ (resV1 rfl (rc rfl Try.isAgg26 Try.sizeOf26 (hS.at b0) rfl rfl)) ?_
  exact ⟨_, rfl, ⟨_, _, _, rfl, (show Sl w 3 ROpr (.slice (some ⟨b11, 0, none⟩) 3 3) ([exO1, exO2, exO3] : List Opr) from sl_of_blk (hS.at b11) (css := [[.string ⟨#[97, 110, 110]⟩, .int .i64 5, .slice (some ⟨b2, 0, none⟩) 1 1], [.string ⟨#[98, 111, 98]⟩, .int .i64 3, .slice (some ⟨b6, 0, none⟩) 2 2], [.string ⟨#[101, 118, 101]⟩, .int .i64 4, .slice (some ⟨b9, 0, none⟩) 1 1]]) (l := ([exO1, exO2, exO3] : List Opr)) rfl ⟨rfl, ⟨_, rfl, by decide, by decide, (show Sl w 2 RSpn (.slice (some ⟨b2, 0, none⟩) 1 1) ([⟨0, 600⟩] : List Spn) from sl_of_blk (hS.at b2) (css := [[.int .i64 0, .int .i64 600]]) (l := ([⟨0, 600⟩] : List Spn)) rfl ⟨rfl, ⟨rfl, by decide, by decide⟩, trivial⟩ (by decide) rfl), (Nat.le_of_ble_eq_true rfl)⟩, rfl, ⟨_, rfl, by decide, by decide, (show Sl w 2 RSpn (.slice (some ⟨b6, 0, none⟩) 2 2) ([⟨0, 300⟩, ⟨400, 600⟩] : List Spn) from sl_of_blk (hS.at b6) (css := [[.int .i64 0, .int .i64 300], [.int .i64 400, .int .i64 600]]) (l := ([⟨0, 300⟩, ⟨400, 600⟩] : List Spn)) rfl ⟨rfl, ⟨rfl, by decide, by decide⟩, rfl, ⟨rfl, by decide, by decide⟩, trivial⟩ (by decide) rfl), (Nat.le_of_ble_eq_true rfl)⟩, rfl, ⟨_, rfl, by decide, by decide, (show Sl w 2 RSpn (.slice (some ⟨b9, 0, none⟩) 1 1) ([⟨200, 600⟩] : List Spn) from sl_of_blk (hS.at b9) (css := [[.int .i64 200, .int .i64 600]]) (l := ([⟨200, 600⟩] : List Spn)) rfl ⟨rfl, ⟨rfl, by decide, by decide⟩, trivial⟩ (by decide) rfl), (Nat.le_of_ble_eq_true rfl)⟩, trivial⟩ (by decide) rfl), (show Sl w 1 RNam (.slice (some ⟨b12, 0, none⟩) 2 2) ([⟨#[114, 101, 100]⟩, ⟨#[98, 108, 117, 101]⟩] : List ByteArray) from sl_of_blk (hS.at b12) (css := [[.string ⟨#[114, 101, 100]⟩], [.string ⟨#[98, 108, 117, 101]⟩]]) (l := ([⟨#[114, 101, 100]⟩, ⟨#[98, 108, 117, 101]⟩] : List ByteArray)) rfl ⟨rfl, ⟨rfl, by decide⟩, rfl, ⟨rfl, by decide⟩, trivial⟩ (by decide) rfl), (show Sl w 6 RKnd (.slice (some ⟨b16, 0, none⟩) 2 2) ([exK1, exK2] : List Knd) from sl_of_blk (hS.at b16) (css := [[.string ⟨#[108, 111, 111, 107]⟩, .int .i64 1, .int .i64 0, .int .i64 0, .slice none 0 0, .bool false], [.string ⟨#[99, 108, 111, 115, 101]⟩, .int .i64 4, .int .i64 3, .int .i64 10, .slice (some ⟨b14, 0, none⟩) 2 2, .bool true]]) (l := ([exK1, exK2] : List Knd)) rfl ⟨rfl, ⟨_, rfl, by decide, by decide, by decide, by decide, Sl.nil, (Nat.le_of_ble_eq_true rfl)⟩, rfl, ⟨_, rfl, by decide, by decide, by decide, by decide, ints_sl (l := [0, 1]) (hS.at b14) (by decide) (by decide), (Nat.le_of_ble_eq_true rfl)⟩, trivial⟩ (by decide) rfl), (Nat.le_of_ble_eq_true rfl)⟩, hS.ext⟩
set_option maxHeartbeats 4000000 in
/-- barrage/barragelaw10.Acts -/
theorem c_Acts {w0 : World} : CE Try.prog 40 #[] w0 (fun u w' => Sl w' 6 RAct u exA ∧ Ext w0 w') := by
  refine enter Try.func40 rfl Try.ntmps40 rfl ?_
  have hS := St.start w0
  refine seq ?_
  refine region ?_
  refine sv (yAsg rfl) ?_
  refine nil ?_
  show Code.wp _ _ _ _ _
  refine seq ?_
  refine region ?_
  refine sv (yBuild Try.zeroValue53 rfl pl53 (.cons rfl rfl (.cons rfl rfl .nil)) rfl) ?_
  refine sv (yBuild Try.zeroValue53 rfl pl53 (.cons rfl rfl (.cons rfl rfl (.cons rfl rfl (.cons rfl rfl .nil)))) rfl) ?_
  refine sv (yBuild Try.zeroValue53 rfl pl53 (.cons rfl rfl (.cons rfl rfl (.cons rfl rfl (.cons rfl rfl .nil)))) rfl) ?_
  refine sv (yBuild Try.zeroValue53 rfl pl53 (.cons rfl rfl (.cons rfl rfl (.cons rfl rfl .nil))) rfl) ?_
  refine sv (yBuild Try.zeroValue53 rfl pl53 (.cons rfl rfl (.cons rfl rfl (.cons rfl rfl (.cons rfl rfl .nil)))) rfl) ?_
  refine sv (yBuild Try.zeroValue53 rfl pl53 (.cons rfl rfl (.cons rfl rfl (.cons rfl rfl (.cons rfl rfl .nil)))) rfl) ?_
  refine sv (yBuild Try.zeroValue53 rfl pl53 (.cons rfl rfl (.cons rfl rfl (.cons rfl rfl (.cons rfl rfl (.cons rfl rfl .nil))))) rfl) ?_
  refine sv (yBuild Try.zeroValue53 rfl pl53 (.cons rfl rfl (.cons rfl rfl .nil)) rfl) ?_
  refine sv (yBuild Try.zeroValue53 rfl pl53 (.cons rfl rfl (.cons rfl rfl (.cons rfl rfl .nil))) rfl) ?_
  refine sbslice hS Try.underlying37 Try.sizeOf53 rfl Try.zeroValue53 rfl (.cons rfl rfl (.cons rfl rfl (.cons rfl rfl (.cons rfl rfl (.cons rfl rfl (.cons rfl rfl (.cons rfl rfl (.cons rfl rfl (.cons rfl rfl .nil))))))))) rfl ?_; clear hS; intro b10 w hS
  refine sv (yAsg rfl) ?_
  refine nil ?_
  show Code.wp _ _ _ _ _
  refine wp_ret ?_
  refine retQ (res1 rfl rfl) ?_
  exact ⟨(show Sl w 6 RAct (.slice (some ⟨b10, 0, none⟩) 9 9) ([⟨10, 0, 1, 0, 0, 0⟩, ⟨11, 1, 1, 1, 0, 0⟩, ⟨12, 0, 4, 1, 0, 7⟩, ⟨13, 0, 5, 2, 0, 0⟩, ⟨22, 1, 5, 2, 0, 0⟩, ⟨22, 1, 5, 2, 0, 0⟩, ⟨23, 1, 4, 1, 0, 8⟩, ⟨20, 0, 4, 0, 0, 0⟩, ⟨310, 0, 1, 1, 0, 0⟩] : List Acn) from sl_of_blk (hS.at b10) (css := [[.int .i64 10, .int .i64 0, .int .i64 1, .int .i64 0, .int .i64 0, .int .i64 0], [.int .i64 11, .int .i64 1, .int .i64 1, .int .i64 1, .int .i64 0, .int .i64 0], [.int .i64 12, .int .i64 0, .int .i64 4, .int .i64 1, .int .i64 0, .int .i64 7], [.int .i64 13, .int .i64 0, .int .i64 5, .int .i64 2, .int .i64 0, .int .i64 0], [.int .i64 22, .int .i64 1, .int .i64 5, .int .i64 2, .int .i64 0, .int .i64 0], [.int .i64 22, .int .i64 1, .int .i64 5, .int .i64 2, .int .i64 0, .int .i64 0], [.int .i64 23, .int .i64 1, .int .i64 4, .int .i64 1, .int .i64 0, .int .i64 8], [.int .i64 20, .int .i64 0, .int .i64 4, .int .i64 0, .int .i64 0, .int .i64 0], [.int .i64 310, .int .i64 0, .int .i64 1, .int .i64 1, .int .i64 0, .int .i64 0]]) (l := ([⟨10, 0, 1, 0, 0, 0⟩, ⟨11, 1, 1, 1, 0, 0⟩, ⟨12, 0, 4, 1, 0, 7⟩, ⟨13, 0, 5, 2, 0, 0⟩, ⟨22, 1, 5, 2, 0, 0⟩, ⟨22, 1, 5, 2, 0, 0⟩, ⟨23, 1, 4, 1, 0, 8⟩, ⟨20, 0, 4, 0, 0, 0⟩, ⟨310, 0, 1, 1, 0, 0⟩] : List Acn)) rfl ⟨rfl, ⟨rfl, by decide, by decide, by decide, by decide, by decide, by decide⟩, rfl, ⟨rfl, by decide, by decide, by decide, by decide, by decide, by decide⟩, rfl, ⟨rfl, by decide, by decide, by decide, by decide, by decide, by decide⟩, rfl, ⟨rfl, by decide, by decide, by decide, by decide, by decide, by decide⟩, rfl, ⟨rfl, by decide, by decide, by decide, by decide, by decide, by decide⟩, rfl, ⟨rfl, by decide, by decide, by decide, by decide, by decide, by decide⟩, rfl, ⟨rfl, by decide, by decide, by decide, by decide, by decide, by decide⟩, rfl, ⟨rfl, by decide, by decide, by decide, by decide, by decide, by decide⟩, rfl, ⟨rfl, by decide, by decide, by decide, by decide, by decide, by decide⟩, trivial⟩ (by decide) rfl), hS.ext⟩
set_option maxHeartbeats 4000000 in
/-- barrage/barragelaw10.Drill -/
theorem c_Drill {w0 : World} : CE Try.prog 41 #[] w0 (fun u w' => ∃ cs : List Value, u = .agg cs.toArray ∧ RScr w' cs exS ∧ Ext w0 w') := by
  refine enter Try.func41 rfl Try.ntmps41 rfl ?_
  have hS := St.start w0
  refine seq ?_
  refine region ?_
  refine salloc hS Try.zeroValue29 rfl ?_; clear hS; intro b0 w hS
  refine nil ?_
  show Code.wp _ _ _ _ _
  refine seq ?_
  refine region ?_
  refine sv (yBuild Try.zeroValue89 rfl pl89 (.cons rfl rfl (.cons rfl rfl (.cons rfl rfl (.cons rfl rfl .nil)))) rfl) ?_
  refine sv (yBuild Try.zeroValue89 rfl pl89 (.cons rfl rfl (.cons rfl rfl (.cons rfl rfl .nil))) rfl) ?_
  refine sv (yBuild Try.zeroValue89 rfl pl89 (.cons rfl rfl (.cons rfl rfl (.cons rfl rfl (.cons rfl rfl (.cons rfl rfl .nil))))) rfl) ?_
  refine sbslice hS Try.underlying27 Try.sizeOf89 rfl Try.zeroValue89 rfl (.cons rfl rfl (.cons rfl rfl (.cons rfl rfl .nil))) rfl ?_; clear hS; intro b4 w hS
  refine sv (yBuild Try.zeroValue29 rfl pl29 (.cons rfl rfl (.cons rfl rfl .nil)) rfl) ?_
  refine sst hS rfl rfl Try.sizeOf29 rfl rfl rfl rfl ?_; clear hS; intro w hS
  refine nil ?_
  show Code.wp _ _ _ _ _
  refine wp_ret ?_
  refine retQ (resV1 rfl (rc rfl Try.isAgg29 Try.sizeOf29 (hS.at b0) rfl rfl)) ?_
  exact ⟨_, rfl, ⟨_, rfl, by decide, (show Sl w 5 RStp (.slice (some ⟨b4, 0, none⟩) 3 3) ([⟨1, 7, -1, 0, 30⟩, ⟨0, 1, 0, 5, 20⟩, ⟨1, 9, 1, 60, 90⟩] : List Stp) from sl_of_blk (hS.at b4) (css := [[.int .i64 1, .int .i64 7, .int .i64 (-1), .int .i64 0, .int .i64 30], [.int .i64 0, .int .i64 1, .int .i64 0, .int .i64 5, .int .i64 20], [.int .i64 1, .int .i64 9, .int .i64 1, .int .i64 60, .int .i64 90]]) (l := ([⟨1, 7, -1, 0, 30⟩, ⟨0, 1, 0, 5, 20⟩, ⟨1, 9, 1, 60, 90⟩] : List Stp)) rfl ⟨rfl, ⟨rfl, by decide, by decide, by decide, by decide, by decide⟩, rfl, ⟨rfl, by decide, by decide, by decide, by decide, by decide⟩, rfl, ⟨rfl, by decide, by decide, by decide, by decide, by decide⟩, trivial⟩ (by decide) rfl)⟩, hS.ext⟩
end Go.Proofs.Ytghgnofilbnbaaa
/- part Ck26 -/
namespace Go.Proofs.Ytghgnofilbnbaaa
open Go Bx
set_option maxHeartbeats 4000000 in
/-- barrage/barragelaw10.Awake -/
theorem c_Awake {w0 : World} : CV Try.prog 18 #[] w0 (.bool true) := by
  refine enter Try.func18 rfl Try.ntmps18 rfl ?_
  have hS := St.start w0
  refine seq ?_
  refine region ?_
  refine sv (yAsg rfl) ?_
  refine nil ?_
  show Code.wp _ _ _ _ _
  refine seq ?_
  refine region ?_
  refine scall Try.call39 .nil c_Example ?_
  rintro _ w ⟨cs1, rfl, hC1, hE⟩; replace hS := hS.step hE; clear hE
  refine scall Try.call40 .nil c_Acts ?_
  rintro av w ⟨hA, hE⟩; replace hC1 := hC1.ext hE; replace hS := hS.step hE; clear hE
  refine scall Try.call20 (.cons rfl (.cons rfl .nil)) (c_Play hC1 hA) ?_
  rw [ex_play.1, ex_play.2]
  rintro _ w ⟨lv, rfl, hM⟩; replace hS := hS.call1 hM; clear hM
  refine sv (yMove rfl) ?_
  refine sv (yExt rfl rfl) ?_
  refine sv (yExt rfl rfl) ?_
  refine sv (yAsg rfl) ?_
  refine sv (yAsg rfl) ?_
  refine nil ?_
  show Code.wp _ _ _ _ _
  refine seq ?_
  refine region ?_
  refine scall Try.call39 .nil c_Example ?_
  rintro _ w ⟨cs2, rfl, hC2, hE⟩; replace hS := hS.step hE; clear hE
  refine scall Try.call41 .nil c_Drill ?_
  rintro _ w ⟨sc2, rfl, hD2, hE⟩; replace hC2 := hC2.ext hE; replace hS := hS.step hE; clear hE
  refine scall Try.call15 (.cons rfl (.cons rfl (.cons rfl .nil))) (c_Plan hC2 hD2 (start := 500)) ?_
  rw [ex_plan.1, ex_plan.2]
  rintro _ w ⟨pv, rfl, hM⟩; replace hS := hS.call1 hM; clear hM
  refine sv (yMove rfl) ?_
  refine sv (yExt rfl rfl) ?_
  refine sv (yExt rfl rfl) ?_
  refine sv (yAsg rfl) ?_
  refine sv (yAsg rfl) ?_
  refine nil ?_
  show Code.wp _ _ _ _ _
  refine seq ?_
  refine region ?_
  refine scall Try.call39 .nil c_Example ?_
  rintro _ w ⟨cs3, rfl, hC3, hE⟩; replace hS := hS.step hE; clear hE
  refine scall Try.call41 .nil c_Drill ?_
  rintro _ w ⟨sc3, rfl, hD3, hE⟩; replace hC3 := hC3.ext hE; replace hS := hS.step hE; clear hE
  refine scall Try.call15 (.cons rfl (.cons rfl (.cons rfl .nil))) (c_Plan hC3 hD3 (start := 560)) ?_
  rw [ex_down]
  rintro _ w ⟨qv, rfl, hM⟩; replace hS := hS.call1 hM; clear hM
  refine sv (yMove rfl) ?_
  refine sv (yExt rfl rfl) ?_
  refine sv (yExt rfl rfl) ?_
  refine sv (yAsg rfl) ?_
  refine sv (yAsg rfl) ?_
  refine nil ?_
  show Code.wp _ _ _ _ _
  refine seq ?_
  refine region ?_
  refine sv (yMove rfl) ?_
  refine sv (yEql rfl rfl) ?_
  refine sv (yMove rfl) ?_
  refine ungo rfl rfl rfl ?_
  refine sv (yMove rfl) ?_
  refine ungo rfl rfl rfl ?_
  refine sv (yEql rfl rfl) ?_
  refine sv (yAnd rfl (fun hB => rfl) rfl) ?_
  refine sv (yMove rfl) ?_
  refine ungo rfl rfl rfl ?_
  refine sv (yMove rfl) ?_
  refine ungo rfl rfl rfl ?_
  refine sv (yEql rfl rfl) ?_
  refine sv (yAnd rfl (fun hB => rfl) rfl) ?_
  refine sv (yMove rfl) ?_
  refine ungo rfl rfl rfl ?_
  refine sv (yMove rfl) ?_
  refine ungo rfl rfl rfl ?_
  refine sbslice hS Try.underlying49 Try.sizeOf31 rfl Try.zeroValue31 rfl (.cons rfl rfl (.cons rfl rfl (.cons rfl rfl (.cons rfl rfl (.cons rfl rfl (.cons rfl rfl (.cons rfl rfl (.cons rfl rfl (.cons rfl rfl .nil))))))))) rfl ?_; clear hS; intro b37 w hS
  refine ungo rfl rfl rfl ?_
  refine scall Try.call21 (.cons rfl (.cons rfl .nil)) (c_errors (sl_ints (hS.row lv) rfl (by decide)) (ints_sl (b := b37) (l := [0, 0, 0, 204, 0, 206, 203, 200, 0]) (hS.at b37) (by decide) (by decide))) ?_
  rintro _ w ⟨rfl, hE⟩; replace hS := hS.step hE; clear hE
  refine sv (yAnd rfl (fun hB => rfl) rfl) ?_
  refine sv (yMove rfl) ?_
  refine ungo rfl rfl rfl ?_
  refine sv (yMove rfl) ?_
  refine ungo rfl rfl rfl ?_
  refine sbslice hS Try.underlying30 Try.sizeOf3 rfl Try.zeroValue3 rfl (.cons rfl rfl (.cons rfl rfl (.cons rfl rfl .nil))) rfl ?_; clear hS; intro b42 w hS
  refine ungo rfl rfl rfl ?_
  refine scall Try.call17 (.cons rfl (.cons rfl .nil)) (c_Ints (sl_ints (hS.row pv) rfl (by decide)) (ints_sl (b := b42) (l := [500, 505, 565]) (hS.at b42) (by decide) (by decide))) ?_
  rintro _ w ⟨rfl, hE⟩; replace hS := hS.step hE; clear hE
  refine sv (yAnd rfl (fun hB => rfl) rfl) ?_
  refine sv (yAsg rfl) ?_
  refine nil ?_
  show Code.wp _ _ _ _ _
  refine wp_ret ?_
  exact retV (res1 rfl rfl) hS.ext
end Go.Proofs.Ytghgnofilbnbaaa
/- part C14 -/
namespace Bx
open Go Go.RowKit
/-- What an act does to the orders that are open, and to those that took effect. -/
inductive Eff (x : Acn) (k : Int) (st : Rm) : Int × Rm → Prop
  | same {F : Int × Rm} (h1 : F.2.opn = st.opn) (h2 : F.2.ords = st.ords) (h3 : x.dw = 6 → F.1 ≠ 0) : Eff x k st F
  | opens {F : Int × Rm} (h1 : F.2.opn = st.opn ++ [k]) (h2 : F.2.ords = st.ords) (h3 : x.dw = 4) : Eff x k st F
  | once {F : Int × Rm} (o : Ord) (h1 : F.2.opn = st.opn) (h2 : F.2.ords = st.ords ++ [o]) (h3 : x.dw = 4) (h4 : o.giv = k) : Eff x k st F
  | twice {F : Int × Rm} (o : Ord) (h0 : x.what ∈ st.opn) (h1 : F.2.opn = st.opn.erase x.what) (h2 : F.2.ords = st.ords ++ [o]) (h3 : x.dw = 5) (h4 : o.giv = x.what) : Eff x k st F
  | back {F : Int × Rm} (h0 : x.what ∈ st.opn) (h1 : F.2.opn = st.opn.erase x.what) (h2 : F.2.ords = st.ords) (h3 : x.dw = 6) : Eff x k st F
theorem confE_mem {c : Crew} {acts : List Acn} {x : Acn} {st : Rm} (h : confE c acts x st = 0) : x.what ∈ st.opn := by
  unfold confE at h
  simp only [] at h
  split at h
  · cases h
  · rename_i hh; exact Classical.not_not.1 hh
theorem cancE_mem {c : Crew} {acts : List Acn} {x : Acn} {st : Rm} (h : cancE c acts x st = 0) : x.what ∈ st.opn := by
  unfold cancE at h
  split at h
  · cases h
  · rename_i hh; exact Classical.not_not.1 hh
theorem done_eff {c : Crew} {acts : List Acn} {k : Int} {x : Acn} {st : Rm} (hd : 1 ≤ x.dw ∧ x.dw ≤ 6) : Eff x k st (doneF c acts k x st) := by
  unfold doneF
  split
  · unfold takeF; split <;> exact .same rfl rfl (fun h => by omega)
  split
  · unfold giveF; split <;> exact .same rfl rfl (fun h => by omega)
  split
  · unfold giveF; split <;> exact .same rfl rfl (fun h => by omega)
  split
  · rename_i h4
    unfold orderF
    simp only []
    split
    · exact .same rfl rfl (fun h => by omega)
    split
    · exact .opens rfl rfl h4
    split
    · exact .same rfl rfl (fun h => by omega)
    · exact .once _ rfl rfl h4 rfl
  split
  · rename_i h5
    unfold confirmF
    split
    · exact .same rfl rfl (fun h => by omega)
    · rename_i h0
      exact .twice _ (confE_mem (Classical.not_not.1 h0)) rfl rfl h5 rfl
  · unfold cancelF
    split
    · rename_i h0; exact .same rfl rfl (fun _ => h0)
    · rename_i h0
      exact .back (cancE_mem (Classical.not_not.1 h0)) rfl rfl (by omega)
theorem do_eff {c : Crew} {acts : List Acn} {k : Int} {x : Acn} {st : Rm} (hd : 1 ≤ x.dw ∧ x.dw ≤ 6) : Eff x k st (doF c acts k x st) := by
  unfold doF
  split
  · exact .same rfl rfl (fun _ => by show (200 : Int) ≠ 0; decide)
  split
  · exact .same rfl rfl (fun _ => by show (201 : Int) ≠ 0; decide)
  · cases done_eff (c := c) (acts := acts) (k := k) (st := { st with now := x.tm }) hd with
    | same h1 h2 h3 => exact .same h1 h2 h3
    | opens h1 h2 h3 => exact .opens h1 h2 h3
    | once o h1 h2 h3 h4 => exact .once o h1 h2 h3 h4
    | twice o h0 h1 h2 h3 h4 => exact .twice o h0 h1 h2 h3 h4
    | back h0 h1 h2 h3 => exact .back h0 h1 h2 h3
structure CanInv (acts : List Acn) (k : Nat) (l : List Int) (st : Rm) : Prop where
  nd : st.opn.Nodup
  ap : ∀ o ∈ st.ords, o.giv ∉ st.opn
  cn : ∀ i : Nat, i < k → (actAt acts i).dw = 6 → l.getD i 1 = 0 → (actAt acts i).what ∉ st.opn ∧ (actAt acts i).what < k ∧ ∀ o ∈ st.ords, o.giv ≠ (actAt acts i).what
theorem canInv_step {c : Crew} {acts : List Acn} {k : Nat} {l : List Int} {st : Rm} {x : Acn} (h : CanInv acts k l st) (hr : RmOk c acts k st) (hl : l.length = k) (hx : acts[k]? = some x) (hok : ActOk c k x) :
    CanInv acts (k + 1) (l ++ [(doF c acts k x st).1]) (doF c acts k x st).2 := by
  have hxa := actAt_nat hx
  have old : ∀ i : Nat, i < k + 1 → (actAt acts i).dw = 6 → (l ++ [(doF c acts k x st).1]).getD i 1 = 0 → (i < k ∧ l.getD i 1 = 0) ∨ (i = k ∧ x.dw = 6 ∧ (doF c acts k x st).1 = 0) := by
    intro i hi hd hg
    rw [getD_app hl] at hg
    split at hg
    · exact .inl ⟨by assumption, hg⟩
    · obtain rfl : i = k := by omega
      rw [if_pos rfl] at hg
      rw [hxa] at hd
      exact .inr ⟨rfl, hd, hg⟩
  have hgiv : ∀ o ∈ st.ords, o.giv < k := fun o ho => (hr.ords o ho).1.2
  have hopk : (k : Int) ∉ st.opn := hr.new
  cases do_eff (c := c) (acts := acts) (k := (k : Int)) (st := st) hok.dw with
  | same h1 h2 h3 =>
    refine ⟨by rw [h1]; exact h.nd, by rw [h1, h2]; exact h.ap, fun i hi hd hg => ?_⟩
    rw [h1, h2]
    rcases old i hi hd hg with ⟨a, b⟩ | ⟨rfl, a, b⟩
    · obtain ⟨p, q, r⟩ := h.cn i a hd b; exact ⟨p, by omega, r⟩
    · exact absurd b (h3 a)
  | opens h1 h2 h3 =>
    refine ⟨by rw [h1]; exact List.nodup_append.2 ⟨h.nd, by simp, fun a ha b hb e => by rw [List.mem_singleton.1 hb] at e; subst e; exact hopk ha⟩, ?_, fun i hi hd hg => ?_⟩
    · rw [h1, h2]
      intro o ho hm
      rcases List.mem_append.1 hm with hm | hm
      · exact h.ap o ho hm
      · have := hgiv o ho; rw [List.mem_singleton.1 hm] at this; omega
    · rw [h1, h2]
      rcases old i hi hd hg with ⟨a, b⟩ | ⟨rfl, a, b⟩
      · obtain ⟨p, q, r⟩ := h.cn i a hd b
        refine ⟨fun hm => ?_, by omega, r⟩
        rcases List.mem_append.1 hm with hm | hm
        · exact p hm
        · rw [List.mem_singleton.1 hm] at q; omega
      · omega
  | once o h1 h2 h3 h4 =>
    refine ⟨by rw [h1]; exact h.nd, ?_, fun i hi hd hg => ?_⟩
    · rw [h1, h2]
      intro o' ho
      rcases List.mem_append.1 ho with ho | ho
      · exact h.ap o' ho
      · rw [List.mem_singleton.1 ho, h4]; exact hopk
    · rw [h1, h2]
      rcases old i hi hd hg with ⟨a, b⟩ | ⟨rfl, a, b⟩
      · obtain ⟨p, q, r⟩ := h.cn i a hd b
        refine ⟨p, by omega, fun o' ho => ?_⟩
        rcases List.mem_append.1 ho with ho | ho
        · exact r o' ho
        · rw [List.mem_singleton.1 ho, h4]; omega
      · omega
  | twice o h0 h1 h2 h3 h4 =>
    have hnx : x.what ∉ st.opn.erase x.what := fun hm => by rw [h.nd.mem_erase_iff] at hm; exact hm.1 rfl
    refine ⟨by rw [h1]; exact h.nd.erase _, ?_, fun i hi hd hg => ?_⟩
    · rw [h1, h2]
      intro o' ho hm
      rcases List.mem_append.1 ho with ho | ho
      · exact h.ap o' ho (List.mem_of_mem_erase hm)
      · rw [List.mem_singleton.1 ho, h4] at hm; exact hnx hm
    · rw [h1, h2]
      rcases old i hi hd hg with ⟨a, b⟩ | ⟨rfl, a, b⟩
      · obtain ⟨p, q, r⟩ := h.cn i a hd b
        refine ⟨fun hm => p (List.mem_of_mem_erase hm), by omega, fun o' ho => ?_⟩
        rcases List.mem_append.1 ho with ho | ho
        · exact r o' ho
        · rw [List.mem_singleton.1 ho, h4]; intro e; rw [e] at h0; exact p h0
      · omega
  | back h0 h1 h2 h3 =>
    have hnx : x.what ∉ st.opn.erase x.what := fun hm => by rw [h.nd.mem_erase_iff] at hm; exact hm.1 rfl
    refine ⟨by rw [h1]; exact h.nd.erase _, ?_, fun i hi hd hg => ?_⟩
    · rw [h1, h2]
      intro o' ho hm
      exact h.ap o' ho (List.mem_of_mem_erase hm)
    · rw [h1, h2]
      rcases old i hi hd hg with ⟨a, b⟩ | ⟨rfl, a, b⟩
      · obtain ⟨p, q, r⟩ := h.cn i a hd b
        exact ⟨fun hm => p (List.mem_of_mem_erase hm), by omega, r⟩
      · rw [hxa]
        have := hr.opn _ h0
        exact ⟨hnx, by omega, fun o ho e => h.ap o ho (by rw [e]; exact h0)⟩
theorem plN_inv {c : Crew} {acts : List Acn} (hc : CrewOk c) (hall : ∀ (j : Nat) y, acts[j]? = some y → ActOk c j y) : ∀ k, k ≤ acts.length → RmOk c acts k (plN c acts k).2 ∧ CanInv acts k (plN c acts k).1 (plN c acts k).2
  | 0, _ => ⟨rmOk_0 c acts hc, ⟨List.nodup_nil, fun o ho => (List.not_mem_nil ho).elim, fun i hi => absurd hi (Nat.not_lt_zero i)⟩⟩
  | k + 1, hk => by
    obtain ⟨h1, h2⟩ := plN_inv hc hall k (by omega)
    have hx := List.getElem?_eq_getElem (show k < acts.length by omega)
    rw [plN_succ hx]
    exact ⟨rmOk_do h1 (hall k _ hx) hx hall, canInv_step h2 h1 (plN_len c acts k) hx (hall k _ hx)⟩
theorem play_ok {c : Crew} {acts : List Acn} (h : playE c acts = 0) : CrewOk c ∧ acts.length ≤ 60 ∧ ∀ (j : Nat) y, acts[j]? = some y → ActOk c j y := by
  unfold playE at h
  split at h
  · rename_i h1; exact absurd h h1
  split at h
  · cases h
  · rename_i h1 h2
    refine ⟨crewOk_of (Classical.not_not.1 h1), by omega, fun j y hy => ?_⟩
    have := firstA_ok h j y hy
    rwa [Int.zero_add] at this
theorem cancelled {c : Crew} {acts : List Acn} (h : playE c acts = 0) {i : Nat} {x : Acn} {o : Ord} {w : Int} (hx : acts[i]? = some x) (hd : x.dw = 6) (hw : (playL c acts)[i]? = some w) (h0 : w = 0) (ho : o ∈ playO c acts) : o.giv ≠ x.what := by
  obtain ⟨hc, _, hall⟩ := play_ok h
  obtain ⟨_, h2⟩ := plN_inv hc hall acts.length (Nat.le_refl _)
  have hxa := actAt_nat hx
  have e1 : playL c acts = (plN c acts acts.length).1 := if_neg (not_not_intro h)
  have e2 : playO c acts = (plN c acts acts.length).2.ords := if_neg (not_not_intro h)
  rw [e1] at hw
  rw [e2] at ho
  have hil := (List.getElem?_eq_some_iff.1 hx).1
  obtain ⟨_, _, r⟩ := h2.cn i hil (by rw [hxa]; exact hd) (by rw [getD_hit hw]; exact h0)
  rw [hxa] at r
  exact r o ho
end Bx
/- part Ck27 -/
namespace Go.Proofs.Ytghgnofilbnbaaa
open Go Bx
set_option maxHeartbeats 4000000 in
/-- barrage/barragelaw10.CrewCancelled -/
theorem w_CrewCancelled {c : Crew} {cs : List Value} {acts : List Acn} {av : Value} {w0 : World} (h : RCrew w0 cs c) (ha : Sl w0 6 RAct av acts) : CV Try.prog 5 #[.agg cs.toArray, av] w0 (.bool true) := by
  obtain ⟨ov, kv, nv, rfl, hso, hsk, hsn, hrm⟩ := id h
  obtain ⟨a, cap, rfl, hcap, hmx, hel⟩ := id hso
  obtain ⟨aa, ca, rfl, hacap, hamx, hela⟩ := id ha
  refine enter Try.func5 rfl Try.ntmps5 rfl ?_
  have hS := St.start w0
  refine seq ?_
  refine region ?_
  refine sbox hS rfl rfl ?_; clear hS; intro b2 w hS
  refine sv (yAsg rfl) ?_
  refine nil ?_
  show Code.wp _ _ _ _ _
  refine seq ?_
  refine region ?_
  refine sv (yLdBA rfl Try.isAgg26 Try.sizeOf26 (hS.at _) rfl rfl) ?_
  refine sv (yMove rfl) ?_
  refine scall Try.call19 (.cons rfl (.cons rfl .nil)) (c_Orders (h.ext hS.ext) (ha.ext RAct.stays hS.ext)) ?_
  rintro _ w ⟨ov, rfl, hM⟩; replace hS := hS.call1 hM; clear hM
  refine sv (yMove rfl) ?_
  refine sv (yExt rfl rfl) ?_
  refine sv (yExt rfl rfl) ?_
  refine sv (yAsg rfl) ?_
  refine sv (yAsg rfl) ?_
  refine nil ?_
  show Code.wp _ _ _ _ _
  refine seq ?_
  refine region ?_
  refine sv (yLdBA rfl Try.isAgg26 Try.sizeOf26 (hS.at _) rfl rfl) ?_
  refine sv (yMove rfl) ?_
  refine scall Try.call20 (.cons rfl (.cons rfl .nil)) (c_Play (h.ext hS.ext) (ha.ext RAct.stays hS.ext)) ?_
  rintro _ w ⟨lv, rfl, hM⟩; replace hS := hS.call1 hM; clear hM
  refine sv (yMove rfl) ?_
  refine sv (yExt rfl rfl) ?_
  refine sv (yExt rfl rfl) ?_
  refine sv (yAsg rfl) ?_
  refine sv (yAsg rfl) ?_
  refine nil ?_
  show Code.wp _ _ _ _ _
  refine seq ?_
  refine seq ?_
  refine region ?_
  refine sv (yMove rfl) ?_
  refine sv (yNeq rfl rfl) ?_
  refine sv (yMove rfl) ?_
  refine sg rfl rfl rfl (fun g => (yMove rfl)) (fun v26 g26 => ?_)
  refine sg rfl rfl rfl (fun g => (yNeq (g26.1 g) rfl)) (fun v27 g27 => ?_)
  refine sv (yOr rfl rfl (fun hB => (g27.1 hB))) ?_
  refine nil ?_
  show Code.wp _ _ _ _ _
  refine cond rfl (fun c28 => ?_) (fun c28 => ?_)
  ·
    simp only [Bool.and_eq_true, Bool.or_eq_true, Bool.and_eq_false_iff, Bool.or_eq_false_iff, decide_eq_true_eq, decide_eq_false_iff_not, Bool.not_eq_true, Bool.not_eq_false, Bool.not_not, Bool.not_eq_eq_eq_not, Bool.not_true, Bool.not_false, Bool.false_eq_true, Bool.true_eq_false, ne_eq, Decidable.not_not, not_false_eq_true, not_true_eq_false] at c28
    refine seq ?_
    refine region ?_
    refine sv (yMove rfl) ?_
    refine sv (yMove rfl) ?_
    refine sv (yEql rfl rfl) ?_
    refine sv (yMove rfl) ?_
    refine sgc hS rfl rfl rfl Try.call18 (fun g => .nil) (fun g => c_Awake) ?_; clear hS; intro v33 w hS g33
    refine sv (yAnd rfl (fun hB => (g33.1 hB)) rfl) ?_
    refine sv (yAsg rfl) ?_
    refine nil ?_
    show Code.wp _ _ _ _ _
    refine wp_ret (thenR ?_)
    exact retV (res1 rfl (eqB (by simp))) hS.ext
  ·
    simp only [Bool.and_eq_true, Bool.or_eq_true, Bool.and_eq_false_iff, Bool.or_eq_false_iff, decide_eq_true_eq, decide_eq_false_iff_not, Bool.not_eq_true, Bool.not_eq_false, Bool.not_not, Bool.not_eq_eq_eq_not, Bool.not_true, Bool.not_false, Bool.false_eq_true, Bool.true_eq_false, ne_eq, Decidable.not_not, not_false_eq_true, not_true_eq_false] at c28
    have hE : playE c acts = 0 := c28.1
    have hll : (playL c acts).length = acts.length := by rw [playL_ok hE, plN_len]
    obtain ⟨al, cl, rfl⟩ := row_shape (hS.row lv)
    obtain ⟨ao, co, rfl⟩ := row_shape (hS.row ov)
    obtain ⟨hc9, hn60, hall9⟩ := play_ok hE
    have hol : (playO c acts).length ≤ acts.length := by rw [playO_ok hE]; exact (plN_inv hc9 hall9 _ (Nat.le_refl _)).1.nord
    refine skip ?_
    show Code.wp _ _ _ _ _
    refine seq ?_
    refine seq ?_
    refine region ?_
    refine sv (yMove rfl) ?_
    refine sv (yLen rfl Try.underlying49) ?_
    refine sv (yMove rfl) ?_
    refine sv (yLen rfl Try.underlying37) ?_
    refine sv (yNeq rfl rfl) ?_
    refine nil ?_
    show Code.wp _ _ _ _ _
    refine cond rfl (fun c39 => ?_) (fun c39 => ?_)
    ·
      simp only [Bool.and_eq_true, Bool.or_eq_true, Bool.and_eq_false_iff, Bool.or_eq_false_iff, decide_eq_true_eq, decide_eq_false_iff_not, Bool.not_eq_true, Bool.not_eq_false, Bool.not_not, Bool.not_eq_eq_eq_not, Bool.not_true, Bool.not_false, Bool.false_eq_true, Bool.true_eq_false, ne_eq, Decidable.not_not, not_false_eq_true, not_true_eq_false] at c39
      exfalso; omega
    ·
      simp only [Bool.and_eq_true, Bool.or_eq_true, Bool.and_eq_false_iff, Bool.or_eq_false_iff, decide_eq_true_eq, decide_eq_false_iff_not, Bool.not_eq_true, Bool.not_eq_false, Bool.not_not, Bool.not_eq_eq_eq_not, Bool.not_true, Bool.not_false, Bool.false_eq_true, Bool.true_eq_false, ne_eq, Decidable.not_not, not_false_eq_true, not_true_eq_false] at c39
      refine skip ?_
      show Code.wp _ _ _ _ _
      refine seq ?_
      refine seq ?_
      refine region ?_
      refine sv (yAsg rfl) ?_
      refine nil ?_
      show Code.wp _ _ _ _ _
      refine block ?_
      refine loop (fun f w zz => ∃ (k : Nat), f 1 = .slice aa acts.length ca ∧ f 5 = .slice ao (playO c acts).length co ∧ f 7 = .slice al (playL c acts).length cl ∧ f 9 = .int .i64 (k : Int) ∧ StX [] w0 w [rowI (.slice al (playL c acts).length cl) 31 1 (playL c acts).length ((playL c acts).flatMap Bx.encI), rowI (.slice ao (playO c acts).length co) 55 5 (playO c acts).length ((playO c acts).flatMap ordC)] ∧ (k ≤ acts.length) ∧ zz = acts.length - k) _ ⟨_, rfl, 0, rfl, rfl, rfl, rfl, (hS.sub (.cons_cons _ (.cons_cons _ (List.nil_sublist _)))), (Nat.zero_le _), rfl⟩ ?_
      clear hS
      rintro f w _ ⟨k, h1, h5, h7, h9, hS, hk, rfl⟩
      refine seq ?_
      refine seq ?_
      refine region ?_
      refine sv (yMove h9) ?_
      refine sv (yMove h1) ?_
      refine sv (yLen rfl Try.underlying37) ?_
      refine sv (yLss rfl rfl) ?_
      refine nil ?_
      show Code.wp _ _ _ _ _
      refine cond rfl (fun c43 => ?_) (fun c43 => ?_)
      ·
        simp only [Bool.and_eq_true, Bool.or_eq_true, Bool.and_eq_false_iff, Bool.or_eq_false_iff, decide_eq_true_eq, decide_eq_false_iff_not, Bool.not_eq_true, Bool.not_eq_false, Bool.not_not, Bool.not_eq_eq_eq_not, Bool.not_true, Bool.not_false, Bool.false_eq_true, Bool.true_eq_false, ne_eq, Decidable.not_not, not_false_eq_true, not_true_eq_false] at c43
        refine skip ?_
        show Code.wp _ _ _ _ _
        refine seq ?_
        refine block ?_
        refine seq ?_
        refine seq ?_
        refine region ?_
        obtain ⟨x, hxq, hdq⟩ := drop_of (l := acts) (k := k) (by omega)
        obtain ⟨bq, oq, csq, haq, hlenq, hcsq, hRq⟩ := hela (k) (by omega)
        obtain rfl : x = acts[k] := (List.getElem?_eq_some_iff.1 hxq).2.symm
        generalize acts[k] = x at hxq hdq hRq
        obtain ⟨rfl, hxi⟩ := hRq
        obtain ⟨v, hxw, -⟩ := drop_of (l := playL c acts) (k := k) (by omega)
        obtain ⟨gl, hgl, -⟩ := row_get (hS.row (.slice al (playL c acts).length cl)) (by omega)
        refine sv (yMove h1) ?_
        refine sv (yMove h9) ?_
        refine sv (yIxa rfl haq rfl Try.runUnderlying37 Try.sizeOf53 (by omega) (by omega)) ?_
        refine sv (fa53_2 rfl) ?_
        refine sv (yLd rfl Try.isAgg3 ((hcsq.ext hS.ext).at (j := 2) rfl)) ?_
        refine sv (yNeq rfl rfl) ?_
        refine sv (yMove rfl) ?_
        refine sg rfl rfl rfl (fun g => (yMove h7)) (fun v53 g53 => ?_)
        refine sg rfl rfl rfl (fun g => (yMove h9)) (fun v54 g54 => ?_)
        refine sg rfl rfl rfl (fun g => (yIx0 (((g53.1 g).trans (by rw [hgl])).trans (rfl : Value.slice (some ⟨gl, 0, none⟩) (playL c acts).length cl = _)) (g54.1 g) Try.runUnderlying49 Try.sizeOf31 (by omega))) (fun v55 g55 => ?_)
        refine sg rfl rfl rfl (fun g => (yLd (g55.1 g) Try.isAgg31 ((flat_cells0 (enc := Bx.encI) encI_len (row_at (hS.row (.slice al (playL c acts).length cl)) hgl (by omega)) hxw).one))) (fun v56 g56 => ?_)
        refine sg rfl rfl rfl (fun g => (yNeq (g56.1 g) rfl)) (fun v57 g57 => ?_)
        refine sv (yOr rfl rfl (fun hB => (g57.1 hB))) ?_
        refine nil ?_
        show Code.wp _ _ _ _ _
        refine cond rfl (fun c58 => ?_) (fun c58 => ?_)
        ·
          simp only [Bool.and_eq_true, Bool.or_eq_true, Bool.and_eq_false_iff, Bool.or_eq_false_iff, decide_eq_true_eq, decide_eq_false_iff_not, Bool.not_eq_true, Bool.not_eq_false, Bool.not_not, Bool.not_eq_eq_eq_not, Bool.not_true, Bool.not_false, Bool.false_eq_true, Bool.true_eq_false, ne_eq, Decidable.not_not, not_false_eq_true, not_true_eq_false] at c58
          refine exit ?_
          show Code.wp _ _ _ _ _
          refine region ?_
          refine sv (yMove h9) ?_
          refine sv (yAdd rfl rfl ⟨by omega, by omega⟩) ?_
          refine sv (yAsg rfl) ?_
          refine nil ?_
          exact ⟨_, _, rfl, ⟨k + 1, h1, h5, h7, rfl, hS, (by omega), rfl⟩, by omega⟩
        ·
          simp only [Bool.and_eq_true, Bool.or_eq_true, Bool.and_eq_false_iff, Bool.or_eq_false_iff, decide_eq_true_eq, decide_eq_false_iff_not, Bool.not_eq_true, Bool.not_eq_false, Bool.not_not, Bool.not_eq_eq_eq_not, Bool.not_true, Bool.not_false, Bool.false_eq_true, Bool.true_eq_false, ne_eq, Decidable.not_not, not_false_eq_true, not_true_eq_false] at c58
          refine skip ?_
          show Code.wp _ _ _ _ _
          refine seq ?_
          refine region ?_
          refine sv (yAsg rfl) ?_
          refine nil ?_
          show Code.wp _ _ _ _ _
          refine block ?_
          refine loop (fun f w zz => ∃ (j : Nat), f 1 = .slice aa acts.length ca ∧ f 5 = .slice ao (playO c acts).length co ∧ f 7 = .slice al (playL c acts).length cl ∧ f 9 = .int .i64 (k : Int) ∧ f 10 = .int .i64 (j : Int) ∧ StX [] w0 w [rowI (.slice al (playL c acts).length cl) 31 1 (playL c acts).length ((playL c acts).flatMap Bx.encI), rowI (.slice ao (playO c acts).length co) 55 5 (playO c acts).length ((playO c acts).flatMap ordC)] ∧ (j ≤ (playO c acts).length) ∧ zz = (playO c acts).length - j) _ ⟨_, rfl, 0, h1, h5, h7, h9, rfl, hS, (Nat.zero_le _), rfl⟩ ?_
          clear hS
          rintro f w _ ⟨j, h1, h5, h7, h9, h10, hS, hj, rfl⟩
          refine seq ?_
          refine seq ?_
          refine region ?_
          refine sv (yMove h10) ?_
          refine sv (yMove h5) ?_
          refine sv (yLen rfl Try.underlying46) ?_
          refine sv (yLss rfl rfl) ?_
          refine nil ?_
          show Code.wp _ _ _ _ _
          refine cond rfl (fun c62 => ?_) (fun c62 => ?_)
          ·
            simp only [Bool.and_eq_true, Bool.or_eq_true, Bool.and_eq_false_iff, Bool.or_eq_false_iff, decide_eq_true_eq, decide_eq_false_iff_not, Bool.not_eq_true, Bool.not_eq_false, Bool.not_not, Bool.not_eq_eq_eq_not, Bool.not_true, Bool.not_false, Bool.false_eq_true, Bool.true_eq_false, ne_eq, Decidable.not_not, not_false_eq_true, not_true_eq_false] at c62
            refine skip ?_
            show Code.wp _ _ _ _ _
            refine seq ?_
            refine block ?_
            refine seq ?_
            refine region_draw mixed (by kernel_rfl) hS ?_
            obtain ⟨o, hxo, -⟩ := drop_of (l := playO c acts) (k := j) (by omega)
            obtain ⟨go, rfl, -⟩ := row_get (hS.row (.slice ao (playO c acts).length co)) (by omega)
            refine qv (fun w hS => (yMove h5)) ?_
            refine qv (fun w hS => (yMove h10)) ?_
            refine qv (fun w hS => (yIx0 rfl rfl Try.runUnderlying46 Try.sizeOf55 (by omega))) ?_
            refine qv (fun w hS => (fa55_0 rfl)) ?_
            refine qv (fun w hS => (yLd rfl Try.isAgg3 ((flat_cells0 ordC_len (row_at (hS.row (.slice (some ⟨go, 0, none⟩) (playO c acts).length co)) rfl (by omega)) hxo).at (j := 0) rfl))) ?_
            refine qv (fun w hS => (yMove h1)) ?_
            refine qv (fun w hS => (yMove h9)) ?_
            refine qv (fun w hS => (yIxa rfl haq rfl Try.runUnderlying37 Try.sizeOf53 (by omega) (by omega))) ?_
            refine qv (fun w hS => (fa53_3 rfl)) ?_
            refine qv (fun w hS => (yLd rfl Try.isAgg3 ((hcsq.ext hS.ext).at (j := 3) rfl))) ?_
            refine qv (fun w hS => (yEql rfl rfl)) ?_
            clear hS; refine qnil (fun w hS => ?_)
            show Code.wp _ _ _ _ _
            refine cond rfl (fun c75 => ?_) (fun c75 => ?_)
            ·
              simp only [Bool.and_eq_true, Bool.or_eq_true, Bool.and_eq_false_iff, Bool.or_eq_false_iff, decide_eq_true_eq, decide_eq_false_iff_not, Bool.not_eq_true, Bool.not_eq_false, Bool.not_not, Bool.not_eq_eq_eq_not, Bool.not_true, Bool.not_false, Bool.false_eq_true, Bool.true_eq_false, ne_eq, Decidable.not_not, not_false_eq_true, not_true_eq_false] at c75
              exact absurd c75 (cancelled hE hxq c58.1 hxw c58.2 (List.mem_of_getElem? hxo))
            ·
              simp only [Bool.and_eq_true, Bool.or_eq_true, Bool.and_eq_false_iff, Bool.or_eq_false_iff, decide_eq_true_eq, decide_eq_false_iff_not, Bool.not_eq_true, Bool.not_eq_false, Bool.not_not, Bool.not_eq_eq_eq_not, Bool.not_true, Bool.not_false, Bool.false_eq_true, Bool.true_eq_false, ne_eq, Decidable.not_not, not_false_eq_true, not_true_eq_false] at c75
              refine skip ?_
              show Code.wp _ _ _ _ _
              refine region ?_
              refine sv (yMove h10) ?_
              refine sv (yAdd rfl rfl ⟨by omega, by omega⟩) ?_
              refine sv (yAsg rfl) ?_
              refine nil ?_
              exact ⟨_, _, rfl, ⟨j + 1, h1, h5, h7, h9, rfl, hS, (by omega), rfl⟩, by omega⟩
          ·
            simp only [Bool.and_eq_true, Bool.or_eq_true, Bool.and_eq_false_iff, Bool.or_eq_false_iff, decide_eq_true_eq, decide_eq_false_iff_not, Bool.not_eq_true, Bool.not_eq_false, Bool.not_not, Bool.not_eq_eq_eq_not, Bool.not_true, Bool.not_false, Bool.false_eq_true, Bool.true_eq_false, ne_eq, Decidable.not_not, not_false_eq_true, not_true_eq_false] at c62
            refine exit ?_
            show Code.wp _ _ _ _ _
            refine region ?_
            refine sv (yMove h9) ?_
            refine sv (yAdd rfl rfl ⟨by omega, by omega⟩) ?_
            refine sv (yAsg rfl) ?_
            refine nil ?_
            exact ⟨_, _, rfl, ⟨k + 1, h1, h5, h7, rfl, hS, (by omega), rfl⟩, by omega⟩
      ·
        simp only [Bool.and_eq_true, Bool.or_eq_true, Bool.and_eq_false_iff, Bool.or_eq_false_iff, decide_eq_true_eq, decide_eq_false_iff_not, Bool.not_eq_true, Bool.not_eq_false, Bool.not_not, Bool.not_eq_eq_eq_not, Bool.not_true, Bool.not_false, Bool.false_eq_true, Bool.true_eq_false, ne_eq, Decidable.not_not, not_false_eq_true, not_true_eq_false] at c43
        refine exit ?_
        show Code.wp _ _ _ _ _
        refine seq ?_
        refine region ?_
        refine scall Try.call18 .nil c_Awake ?_
        rintro _ w ⟨rfl, hE⟩; replace hS := hS.step hE; clear hE
        refine sv (yAsg rfl) ?_
        refine nil ?_
        show Code.wp _ _ _ _ _
        refine wp_ret ?_
        exact retV (res1 rfl rfl) hS.ext
end Go.Proofs.Ytghgnofilbnbaaa
/- part LibM -/
namespace Bx
open Go Go.RowKit
def WOk {H : Type} (P : Program) (t : TypeId) (d : DataW H) : Prop := ∀ n ∈ d.weights P t, n ≤ 140737488351232
def RdW {α : Type} (P : Program) (t : TypeId) (R : World → List Value → α → Prop) : Prop :=
  ∀ (H : Type) (enc : TypeId × Value → H) (w : World) (base : Nat) (spare : Nat → Bool) (held : Bool) (fuel : Nat) (cs : List Value) (x : DataW H × List MemPlace), DataW.trod enc P w base spare held fuel t cs = some x → WOk P t x.1 → ∃ a, R w cs a
theorem Rd.w {α : Type} {P : Program} {t : TypeId} {R : World → List Value → α → Prop} (h : Rd P t R) : RdW P t R := fun H enc w base spare held fuel cs x hx _ => h H enc w base spare held fuel cs x hx
section
variable {P : Program} {t e : TypeId}
theorem weightsAll_mem {H : Type} {P : Program} {e : TypeId} : ∀ {l : List (DataW H)} {d : DataW H}, d ∈ l → ∀ n ∈ d.weights P e, n ∈ DataW.weightsAll P e l
  | a :: l, d, hd, n, hn => by
    unfold DataW.weightsAll
    rcases List.mem_cons.1 hd with rfl | hd
    · exact List.mem_append_left _ hn
    · exact List.mem_append_right _ (weightsAll_mem hd n hn)
theorem rdw_slice {α : Type} {R : World → List Value → α → Prop} {k bytes : Nat} (hR : RdW P e R) (hk : P.cellsOf e = k) (h0 : 0 < k) (ht : P.underlying t = some (.slice e)) (hb : P.bytesOf e = bytes) : RdW P t (fun w cs (l : List α) => ∃ v, cs = [v] ∧ Sl w k R v l ∧ l.length * bytes ≤ 140737488351232) := by
  intro H enc w base spare held fuel cs x h hW
  rcases Deep.open_slice ht h with ⟨rfl, _⟩ | ⟨a, len, cap, m, n, D, Pl, rfl, _, hl, hm, hmm, rfl, hx⟩
  · exact ⟨[], _, rfl, Sl.nil, by simp⟩
  · have hlm : len ≤ m := by rw [hmm]; split <;> omega
    rw [hk] at hx
    unfold WOk at hW
    simp only [DataW.weights, ht] at hW
    have hbd := hW _ (List.mem_cons_self ..)
    have hel : ∀ i, i < len → WOk P e (D i) := fun i hi n hn => hW n (List.mem_cons_of_mem _ (List.mem_append_left _ (weightsAll_mem (List.mem_map.2 ⟨i, List.mem_range.2 hi, rfl⟩) n hn)))
    obtain ⟨l, hll, hp⟩ := list_of (p := fun i x => ∃ cs, w.cells? base (a.add (i * k)) k = some cs ∧ R w cs x) len (fun i hi => by
      obtain ⟨cs, h1, h2⟩ := hx i (by omega)
      obtain ⟨y, hy⟩ := hR H enc w base spare held n cs _ h2 (hel i hi)
      exact ⟨y, cs, h1, hy⟩)
    refine ⟨l, _, rfl, ⟨some a, cap, by rw [hll], by omega, by simp only [maxLen] at hm; omega, fun i hi => ?_⟩, ?_⟩
    · obtain ⟨cs, h1, h2⟩ := hp i hi
      obtain ⟨cs0, h01, _⟩ := hp 0 (by omega)
      obtain ⟨_, hl0, hc0⟩ := World.cells?_some h01
      have ha := addr_of ((hc0 0 h0).trans (List.getElem?_eq_getElem (by omega)))
      obtain ⟨_, hlc, hc⟩ := World.cells?_some h1
      obtain ⟨b, o, s⟩ := a
      have hs : s = none := by
        have : (0 : Nat) * k = 0 := Nat.zero_mul k
        simp only [this, Addr.add, if_true] at ha
        simpa using ha
      subst hs
      refine ⟨b, o, cs, rfl, hlc, fun j v hv => ?_, h2⟩
      have hj : j < k := by have := (List.getElem?_eq_some_iff.1 hv).1; omega
      have := (hc j hj).trans hv
      rwa [addr_add, addr_add] at this
    · rw [hll, ← hb]
      refine Nat.le_trans ?_ hbd
      exact Nat.mul_le_mul_right _ (by simp)
theorem rdw_fields {H : Type} {enc : TypeId × Value → H} {w : World} {base : Nat} {spare : Nat → Bool} {held : Bool} {fuel : Nat} {cs : List Value} {x : DataW H × List MemPlace} {fs : Array Field} (ht : P.underlying t = some (.struct fs)) (h : DataW.trod enc P w base spare held fuel t cs = some x) (hW : WOk P t x.1) :
    cs.length = P.cellsOf t ∧ ∃ n, ∀ (i : Nat) (f : Field), fs[i]? = some f → ∃ y, DataW.trod enc P w base spare held n f.type ((cs.drop f.offset).take (P.cellsOf f.type)) = some y ∧ WOk P f.type y.1 := by
  obtain ⟨xs, n, _, rfl, hl, hxs, hf⟩ := DataW.trod_struct ht h
  refine ⟨hl, n, fun i f hi => ?_⟩
  have h1 := (Array.getElem?_eq_some_iff.1 hi).1
  have hix : i < xs.length := by omega
  refine ⟨xs[i], (hf i f hi).trans (List.getElem?_eq_getElem hix), fun m hm => hW m ?_⟩
  simp only [DataW.weights, ht]
  exact DataW.weights_mem_each (j := i) (t := f.type) (d := xs[i].1) (by simp [hi]) (by simp [hix]) m hm
end
end Bx
/- part RdF -/
namespace Go.Proofs.Ytghgnofilbnbaaa
open Go Bx
section
variable {H : Type} {enc : TypeId × Value → H} {w : World} {base : Nat} {spare : Nat → Bool} {held : Bool} {fuel : Nat} {cs : List Value} {x : DataW H × List MemPlace}
theorem rdF26 (h : DataW.trod enc Try.prog w base spare held fuel 26 cs = some x) (hW : WOk Try.prog 26 x.1) : ∃ n c0 c1 c2, cs = [c0, c1, c2] ∧ (∃ y, DataW.trod enc Try.prog w base spare held n 22 [c0] = some y ∧ WOk Try.prog 22 y.1) ∧ (∃ y, DataW.trod enc Try.prog w base spare held n 23 [c1] = some y ∧ WOk Try.prog 23 y.1) ∧ (∃ y, DataW.trod enc Try.prog w base spare held n 24 [c2] = some y ∧ WOk Try.prog 24 y.1) := by
  have z22 : Try.prog.cellsOf 22 = 1 := by kernel_rfl
  have z23 : Try.prog.cellsOf 23 = 1 := by kernel_rfl
  have z24 : Try.prog.cellsOf 24 = 1 := by kernel_rfl
  obtain ⟨hl, n, hf⟩ := rdw_fields Try.underlying26 h hW
  have hz : Try.prog.cellsOf 26 = 3 := by kernel_rfl
  rw [hz] at hl
  obtain ⟨c0, c1, c2, rfl⟩ := three_of hl
  have f0 : ∃ y, DataW.trod enc Try.prog w base spare held n 22 ((List.drop 0 [c0, c1, c2]).take (Try.prog.cellsOf 22)) = some y ∧ WOk Try.prog 22 y.1 := hf 0 _ rfl
  rw [z22] at f0
  have f1 : ∃ y, DataW.trod enc Try.prog w base spare held n 23 ((List.drop 1 [c0, c1, c2]).take (Try.prog.cellsOf 23)) = some y ∧ WOk Try.prog 23 y.1 := hf 1 _ rfl
  rw [z23] at f1
  have f2 : ∃ y, DataW.trod enc Try.prog w base spare held n 24 ((List.drop 2 [c0, c1, c2]).take (Try.prog.cellsOf 24)) = some y ∧ WOk Try.prog 24 y.1 := hf 2 _ rfl
  rw [z24] at f2
  exact ⟨n, c0, c1, c2, rfl, f0, f1, f2⟩
theorem rdF42 (h : DataW.trod enc Try.prog w base spare held fuel 42 cs = some x) (hW : WOk Try.prog 42 x.1) : ∃ n c0 c1 c2, cs = [c0, c1, c2] ∧ (∃ y, DataW.trod enc Try.prog w base spare held n 9 [c0] = some y ∧ WOk Try.prog 9 y.1) ∧ (∃ y, DataW.trod enc Try.prog w base spare held n 3 [c1] = some y ∧ WOk Try.prog 3 y.1) ∧ (∃ y, DataW.trod enc Try.prog w base spare held n 40 [c2] = some y ∧ WOk Try.prog 40 y.1) := by
  have z3 : Try.prog.cellsOf 3 = 1 := by kernel_rfl
  have z9 : Try.prog.cellsOf 9 = 1 := by kernel_rfl
  have z40 : Try.prog.cellsOf 40 = 1 := by kernel_rfl
  obtain ⟨hl, n, hf⟩ := rdw_fields Try.underlying42 h hW
  have hz : Try.prog.cellsOf 42 = 3 := by kernel_rfl
  rw [hz] at hl
  obtain ⟨c0, c1, c2, rfl⟩ := three_of hl
  have f0 : ∃ y, DataW.trod enc Try.prog w base spare held n 9 ((List.drop 0 [c0, c1, c2]).take (Try.prog.cellsOf 9)) = some y ∧ WOk Try.prog 9 y.1 := hf 0 _ rfl
  rw [z9] at f0
  have f1 : ∃ y, DataW.trod enc Try.prog w base spare held n 3 ((List.drop 1 [c0, c1, c2]).take (Try.prog.cellsOf 3)) = some y ∧ WOk Try.prog 3 y.1 := hf 1 _ rfl
  rw [z3] at f1
  have f2 : ∃ y, DataW.trod enc Try.prog w base spare held n 40 ((List.drop 2 [c0, c1, c2]).take (Try.prog.cellsOf 40)) = some y ∧ WOk Try.prog 40 y.1 := hf 2 _ rfl
  rw [z40] at f2
  exact ⟨n, c0, c1, c2, rfl, f0, f1, f2⟩
theorem rdF44 (h : DataW.trod enc Try.prog w base spare held fuel 44 cs = some x) (hW : WOk Try.prog 44 x.1) : ∃ n c0 c1, cs = [c0, c1] ∧ (∃ y, DataW.trod enc Try.prog w base spare held n 3 [c0] = some y ∧ WOk Try.prog 3 y.1) ∧ (∃ y, DataW.trod enc Try.prog w base spare held n 3 [c1] = some y ∧ WOk Try.prog 3 y.1) := by
  have z3 : Try.prog.cellsOf 3 = 1 := by kernel_rfl
  obtain ⟨hl, n, hf⟩ := rdw_fields Try.underlying44 h hW
  have hz : Try.prog.cellsOf 44 = 2 := by kernel_rfl
  rw [hz] at hl
  obtain ⟨c0, c1, rfl⟩ := two_of hl
  have f0 : ∃ y, DataW.trod enc Try.prog w base spare held n 3 ((List.drop 0 [c0, c1]).take (Try.prog.cellsOf 3)) = some y ∧ WOk Try.prog 3 y.1 := hf 0 _ rfl
  rw [z3] at f0
  have f1 : ∃ y, DataW.trod enc Try.prog w base spare held n 3 ((List.drop 1 [c0, c1]).take (Try.prog.cellsOf 3)) = some y ∧ WOk Try.prog 3 y.1 := hf 1 _ rfl
  rw [z3] at f1
  exact ⟨n, c0, c1, rfl, f0, f1⟩
theorem rdF53 (h : DataW.trod enc Try.prog w base spare held fuel 53 cs = some x) (hW : WOk Try.prog 53 x.1) : ∃ n c0 c1 c2 c3 c4 c5, cs = [c0, c1, c2, c3, c4, c5] ∧ (∃ y, DataW.trod enc Try.prog w base spare held n 3 [c0] = some y ∧ WOk Try.prog 3 y.1) ∧ (∃ y, DataW.trod enc Try.prog w base spare held n 3 [c1] = some y ∧ WOk Try.prog 3 y.1) ∧ (∃ y, DataW.trod enc Try.prog w base spare held n 3 [c2] = some y ∧ WOk Try.prog 3 y.1) ∧ (∃ y, DataW.trod enc Try.prog w base spare held n 3 [c3] = some y ∧ WOk Try.prog 3 y.1) ∧ (∃ y, DataW.trod enc Try.prog w base spare held n 3 [c4] = some y ∧ WOk Try.prog 3 y.1) ∧ (∃ y, DataW.trod enc Try.prog w base spare held n 3 [c5] = some y ∧ WOk Try.prog 3 y.1) := by
  have z3 : Try.prog.cellsOf 3 = 1 := by kernel_rfl
  obtain ⟨hl, n, hf⟩ := rdw_fields Try.underlying53 h hW
  have hz : Try.prog.cellsOf 53 = 6 := by kernel_rfl
  rw [hz] at hl
  obtain ⟨c0, c1, c2, c3, c4, c5, rfl⟩ := six_of hl
  have f0 : ∃ y, DataW.trod enc Try.prog w base spare held n 3 ((List.drop 0 [c0, c1, c2, c3, c4, c5]).take (Try.prog.cellsOf 3)) = some y ∧ WOk Try.prog 3 y.1 := hf 0 _ rfl
  rw [z3] at f0
  have f1 : ∃ y, DataW.trod enc Try.prog w base spare held n 3 ((List.drop 1 [c0, c1, c2, c3, c4, c5]).take (Try.prog.cellsOf 3)) = some y ∧ WOk Try.prog 3 y.1 := hf 1 _ rfl
  rw [z3] at f1
  have f2 : ∃ y, DataW.trod enc Try.prog w base spare held n 3 ((List.drop 2 [c0, c1, c2, c3, c4, c5]).take (Try.prog.cellsOf 3)) = some y ∧ WOk Try.prog 3 y.1 := hf 2 _ rfl
  rw [z3] at f2
  have f3 : ∃ y, DataW.trod enc Try.prog w base spare held n 3 ((List.drop 3 [c0, c1, c2, c3, c4, c5]).take (Try.prog.cellsOf 3)) = some y ∧ WOk Try.prog 3 y.1 := hf 3 _ rfl
  rw [z3] at f3
  have f4 : ∃ y, DataW.trod enc Try.prog w base spare held n 3 ((List.drop 4 [c0, c1, c2, c3, c4, c5]).take (Try.prog.cellsOf 3)) = some y ∧ WOk Try.prog 3 y.1 := hf 4 _ rfl
  rw [z3] at f4
  have f5 : ∃ y, DataW.trod enc Try.prog w base spare held n 3 ((List.drop 5 [c0, c1, c2, c3, c4, c5]).take (Try.prog.cellsOf 3)) = some y ∧ WOk Try.prog 3 y.1 := hf 5 _ rfl
  rw [z3] at f5
  exact ⟨n, c0, c1, c2, c3, c4, c5, rfl, f0, f1, f2, f3, f4, f5⟩
theorem rdF79 (h : DataW.trod enc Try.prog w base spare held fuel 79 cs = some x) (hW : WOk Try.prog 79 x.1) : ∃ n c0 c1 c2 c3 c4 c5, cs = [c0, c1, c2, c3, c4, c5] ∧ (∃ y, DataW.trod enc Try.prog w base spare held n 9 [c0] = some y ∧ WOk Try.prog 9 y.1) ∧ (∃ y, DataW.trod enc Try.prog w base spare held n 3 [c1] = some y ∧ WOk Try.prog 3 y.1) ∧ (∃ y, DataW.trod enc Try.prog w base spare held n 3 [c2] = some y ∧ WOk Try.prog 3 y.1) ∧ (∃ y, DataW.trod enc Try.prog w base spare held n 3 [c3] = some y ∧ WOk Try.prog 3 y.1) ∧ (∃ y, DataW.trod enc Try.prog w base spare held n 30 [c4] = some y ∧ WOk Try.prog 30 y.1) ∧ (∃ y, DataW.trod enc Try.prog w base spare held n 4 [c5] = some y ∧ WOk Try.prog 4 y.1) := by
  have z3 : Try.prog.cellsOf 3 = 1 := by kernel_rfl
  have z4 : Try.prog.cellsOf 4 = 1 := by kernel_rfl
  have z9 : Try.prog.cellsOf 9 = 1 := by kernel_rfl
  have z30 : Try.prog.cellsOf 30 = 1 := by kernel_rfl
  obtain ⟨hl, n, hf⟩ := rdw_fields Try.underlying79 h hW
  have hz : Try.prog.cellsOf 79 = 6 := by kernel_rfl
  rw [hz] at hl
  obtain ⟨c0, c1, c2, c3, c4, c5, rfl⟩ := six_of hl
  have f0 : ∃ y, DataW.trod enc Try.prog w base spare held n 9 ((List.drop 0 [c0, c1, c2, c3, c4, c5]).take (Try.prog.cellsOf 9)) = some y ∧ WOk Try.prog 9 y.1 := hf 0 _ rfl
  rw [z9] at f0
  have f1 : ∃ y, DataW.trod enc Try.prog w base spare held n 3 ((List.drop 1 [c0, c1, c2, c3, c4, c5]).take (Try.prog.cellsOf 3)) = some y ∧ WOk Try.prog 3 y.1 := hf 1 _ rfl
  rw [z3] at f1
  have f2 : ∃ y, DataW.trod enc Try.prog w base spare held n 3 ((List.drop 2 [c0, c1, c2, c3, c4, c5]).take (Try.prog.cellsOf 3)) = some y ∧ WOk Try.prog 3 y.1 := hf 2 _ rfl
  rw [z3] at f2
  have f3 : ∃ y, DataW.trod enc Try.prog w base spare held n 3 ((List.drop 3 [c0, c1, c2, c3, c4, c5]).take (Try.prog.cellsOf 3)) = some y ∧ WOk Try.prog 3 y.1 := hf 3 _ rfl
  rw [z3] at f3
  have f4 : ∃ y, DataW.trod enc Try.prog w base spare held n 30 ((List.drop 4 [c0, c1, c2, c3, c4, c5]).take (Try.prog.cellsOf 30)) = some y ∧ WOk Try.prog 30 y.1 := hf 4 _ rfl
  rw [z30] at f4
  have f5 : ∃ y, DataW.trod enc Try.prog w base spare held n 4 ((List.drop 5 [c0, c1, c2, c3, c4, c5]).take (Try.prog.cellsOf 4)) = some y ∧ WOk Try.prog 4 y.1 := hf 5 _ rfl
  rw [z4] at f5
  exact ⟨n, c0, c1, c2, c3, c4, c5, rfl, f0, f1, f2, f3, f4, f5⟩
end
end Go.Proofs.Ytghgnofilbnbaaa
/- part Rd1 -/
namespace Go.Proofs.Ytghgnofilbnbaaa
open Go Bx
theorem rd_Spn : RdW Try.prog 44 RSpn := by
  intro H enc w base spare held fuel cs x h hW
  obtain ⟨n, c0, c1, rfl, ⟨y0, f0, k0⟩, ⟨y1, f1, k1⟩⟩ := rdF44 h hW
  obtain ⟨a0, g0⟩ := (Rd.w (rd_int Try.underlying3)) _ _ _ _ _ _ _ _ _ f0 k0
  obtain ⟨a1, g1⟩ := (Rd.w (rd_int Try.underlying3)) _ _ _ _ _ _ _ _ _ f1 k1
  obtain ⟨e0, i0⟩ := g0; obtain ⟨e1, i1⟩ := g1; cases e0; cases e1; exact ⟨⟨a0, a1⟩, rfl, i0, i1⟩
theorem rd_Spns : RdW Try.prog 40 (fun w cs (l : List Spn) => ∃ v, cs = [v] ∧ Sl w 2 RSpn v l ∧ l.length * 16 ≤ 140737488351232) := rdw_slice rd_Spn (by kernel_rfl) (by decide) Try.underlying40 (by kernel_rfl)
theorem rd_Ints : RdW Try.prog 30 (fun w cs (l : List Int) => ∃ v, cs = [v] ∧ Sl w 1 RInt v l ∧ l.length * 8 ≤ 140737488351232) := rdw_slice (Rd.w (rd_int Try.underlying3)) (by kernel_rfl) (by decide) Try.underlying30 (by kernel_rfl)
theorem rd_Nams : RdW Try.prog 23 (fun w cs (l : List ByteArray) => ∃ v, cs = [v] ∧ Sl w 1 RNam v l ∧ l.length * 16 ≤ 140737488351232) := rdw_slice (Rd.w (rd_str Try.underlying9)) (by kernel_rfl) (by decide) Try.underlying23 (by kernel_rfl)
theorem rd_Opr : RdW Try.prog 42 ROpr := by
  intro H enc w base spare held fuel cs x h hW
  obtain ⟨n, c0, c1, c2, rfl, ⟨y0, f0, k0⟩, ⟨y1, f1, k1⟩, ⟨y2, f2, k2⟩⟩ := rdF42 h hW
  obtain ⟨a0, g0⟩ := (Rd.w (rd_str Try.underlying9)) _ _ _ _ _ _ _ _ _ f0 k0
  obtain ⟨a1, g1⟩ := (Rd.w (rd_int Try.underlying3)) _ _ _ _ _ _ _ _ _ f1 k1
  obtain ⟨a2, g2⟩ := rd_Spns _ _ _ _ _ _ _ _ _ f2 k2
  obtain ⟨e0, i0⟩ := g0; obtain ⟨e1, i1⟩ := g1; obtain ⟨v2, e2, i2, r2⟩ := g2; cases e0; cases e1; cases e2; exact ⟨⟨a0, a1, a2⟩, _, rfl, i0, i1, i2, r2⟩
theorem rd_Oprs : RdW Try.prog 22 (fun w cs (l : List Opr) => ∃ v, cs = [v] ∧ Sl w 3 ROpr v l ∧ l.length * 48 ≤ 140737488351232) := rdw_slice rd_Opr (by kernel_rfl) (by decide) Try.underlying22 (by kernel_rfl)
theorem rd_Knd : RdW Try.prog 79 RKnd := by
  intro H enc w base spare held fuel cs x h hW
  obtain ⟨n, c0, c1, c2, c3, c4, c5, rfl, ⟨y0, f0, k0⟩, ⟨y1, f1, k1⟩, ⟨y2, f2, k2⟩, ⟨y3, f3, k3⟩, ⟨y4, f4, k4⟩, ⟨y5, f5, k5⟩⟩ := rdF79 h hW
  obtain ⟨a0, g0⟩ := (Rd.w (rd_str Try.underlying9)) _ _ _ _ _ _ _ _ _ f0 k0
  obtain ⟨a1, g1⟩ := (Rd.w (rd_int Try.underlying3)) _ _ _ _ _ _ _ _ _ f1 k1
  obtain ⟨a2, g2⟩ := (Rd.w (rd_int Try.underlying3)) _ _ _ _ _ _ _ _ _ f2 k2
  obtain ⟨a3, g3⟩ := (Rd.w (rd_int Try.underlying3)) _ _ _ _ _ _ _ _ _ f3 k3
  obtain ⟨a4, g4⟩ := rd_Ints _ _ _ _ _ _ _ _ _ f4 k4
  obtain ⟨a5, g5⟩ := (Rd.w (rd_bool Try.underlying4)) _ _ _ _ _ _ _ _ _ f5 k5
  obtain ⟨e0, i0⟩ := g0; obtain ⟨e1, i1⟩ := g1; obtain ⟨e2, i2⟩ := g2; obtain ⟨e3, i3⟩ := g3; obtain ⟨v4, e4, i4, r4⟩ := g4; have e5 : [c5] = [Value.bool a5] := g5; cases e0; cases e1; cases e2; cases e3; cases e4; cases e5; exact ⟨⟨a0, a1, a2, a3, a4, a5⟩, _, rfl, i0, i1, i2, i3, i4, r4⟩
theorem rd_Knds : RdW Try.prog 24 (fun w cs (l : List Knd) => ∃ v, cs = [v] ∧ Sl w 6 RKnd v l ∧ l.length * 72 ≤ 140737488351232) := rdw_slice rd_Knd (by kernel_rfl) (by decide) Try.underlying24 (by kernel_rfl)
theorem rd_Crew : RdW Try.prog 26 RCrew := by
  intro H enc w base spare held fuel cs x h hW
  obtain ⟨n, c0, c1, c2, rfl, ⟨y0, f0, k0⟩, ⟨y1, f1, k1⟩, ⟨y2, f2, k2⟩⟩ := rdF26 h hW
  obtain ⟨a0, g0⟩ := rd_Oprs _ _ _ _ _ _ _ _ _ f0 k0
  obtain ⟨a1, g1⟩ := rd_Nams _ _ _ _ _ _ _ _ _ f1 k1
  obtain ⟨a2, g2⟩ := rd_Knds _ _ _ _ _ _ _ _ _ f2 k2
  obtain ⟨v0, e0, i0, r0⟩ := g0; obtain ⟨v1, e1, i1, r1⟩ := g1; obtain ⟨v2, e2, i2, r2⟩ := g2; cases e0; cases e1; cases e2; exact ⟨⟨a0, a1, a2⟩, _, _, _, rfl, i0, i1, i2, r0⟩
theorem rd_Act : RdW Try.prog 53 RAct := by
  intro H enc w base spare held fuel cs x h hW
  obtain ⟨n, c0, c1, c2, c3, c4, c5, rfl, ⟨y0, f0, k0⟩, ⟨y1, f1, k1⟩, ⟨y2, f2, k2⟩, ⟨y3, f3, k3⟩, ⟨y4, f4, k4⟩, ⟨y5, f5, k5⟩⟩ := rdF53 h hW
  obtain ⟨a0, g0⟩ := (Rd.w (rd_int Try.underlying3)) _ _ _ _ _ _ _ _ _ f0 k0
  obtain ⟨a1, g1⟩ := (Rd.w (rd_int Try.underlying3)) _ _ _ _ _ _ _ _ _ f1 k1
  obtain ⟨a2, g2⟩ := (Rd.w (rd_int Try.underlying3)) _ _ _ _ _ _ _ _ _ f2 k2
  obtain ⟨a3, g3⟩ := (Rd.w (rd_int Try.underlying3)) _ _ _ _ _ _ _ _ _ f3 k3
  obtain ⟨a4, g4⟩ := (Rd.w (rd_int Try.underlying3)) _ _ _ _ _ _ _ _ _ f4 k4
  obtain ⟨a5, g5⟩ := (Rd.w (rd_int Try.underlying3)) _ _ _ _ _ _ _ _ _ f5 k5
  obtain ⟨e0, i0⟩ := g0; obtain ⟨e1, i1⟩ := g1; obtain ⟨e2, i2⟩ := g2; obtain ⟨e3, i3⟩ := g3; obtain ⟨e4, i4⟩ := g4; obtain ⟨e5, i5⟩ := g5; cases e0; cases e1; cases e2; cases e3; cases e4; cases e5; exact ⟨⟨a0, a1, a2, a3, a4, a5⟩, rfl, i0, i1, i2, i3, i4, i5⟩
theorem rd_Acts : RdW Try.prog 37 (fun w cs (l : List Acn) => ∃ v, cs = [v] ∧ Sl w 6 RAct v l ∧ l.length * 48 ≤ 140737488351232) := rdw_slice rd_Act (by kernel_rfl) (by decide) Try.underlying37 (by kernel_rfl)
end Go.Proofs.Ytghgnofilbnbaaa
