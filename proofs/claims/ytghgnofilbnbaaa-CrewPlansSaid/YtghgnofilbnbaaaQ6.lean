/- Merged texts, part 6. -/
import Derived.Test.YtghgnofilbnbaaaQ5
import Derived.SizedLaws
import Derived.Test.YtghgnofilbnbaaaProg
set_option linter.all false
/- part C23 -/
namespace Bx
open Go Go.RowKit
theorem inB_not {a lo hi : Int} : (!inB a lo hi) = outB a lo hi := by
  rw [Bool.eq_iff_iff]
  simp only [Bool.not_eq_true', inB, outB, Bool.and_eq_false_iff, Bool.or_eq_true, decide_eq_true_eq, decide_eq_false_iff_not]
  omega
def errR {α : Type} (nm : α → ByteArray) (rest : α → Int) (l : List α) (i : Nat) (x : α) : Int := if (!isName (nm x)) = true then 6 else if memB (nm x) ((l.take i).map nm) = true then 5 else rest x
theorem errR_form {α : Type} {nm : α → ByteArray} {rest : α → Int} {l : List α} {i : Nat} {x : α} (h : (!isName (nm x)) = true) : errR nm rest l i x = 6 := if_pos h
theorem errR_twice {α : Type} {nm : α → ByteArray} {rest : α → Int} {l : List α} {i k : Nat} {x u : α} (h : (!isName (nm x)) = false) (hu : l[k]? = some u) (hk : k < i) (he : nm u = nm x) : errR nm rest l i x = 5 := by
  unfold errR
  rw [if_neg (by rw [h]; decide), if_pos]
  rw [memB_iff, ← he]
  exact List.mem_map.2 ⟨u, List.mem_of_getElem? (i := k) (by rw [List.getElem?_take, if_pos hk]; exact hu), rfl⟩
theorem errR_rest {α : Type} {nm : α → ByteArray} {rest : α → Int} {l : List α} {i : Nat} {x : α} (h : (!isName (nm x)) = false) (hn : ∀ k, k < i → ∀ u, l[k]? = some u → nm u ≠ nm x) : errR nm rest l i x = rest x := by
  unfold errR
  rw [if_neg (by rw [h]; decide), if_neg]
  rw [memB_iff]
  intro hm
  obtain ⟨u, hu, he⟩ := List.mem_map.1 hm
  obtain ⟨k, hk, rfl⟩ := List.getElem_of_mem hu
  rw [List.length_take] at hk
  rw [List.getElem_take] at he
  exact hn k (by omega) _ (List.getElem?_eq_getElem (by omega)) he
theorem namedR_step {α : Type} {nm : α → ByteArray} {rest : α → Int} {l : List α} {k : Nat} {x : α} (hx : l[k]? = some x) (hd : l.drop k = x :: l.drop (k + 1)) (h0 : errR nm rest l k x = 0) :
    namedR nm rest (l.drop k) ((l.take k).map nm) k = namedR nm rest (l.drop (k + 1)) ((l.take (k + 1)).map nm) ((k + 1 : Nat) : Int) := by
  rw [hd, namedR, namedR_take hx]
  unfold errR at h0
  split at h0
  · cases h0
  split at h0
  · cases h0
  rename_i h1 h2
  rw [if_neg h1, if_neg h2, if_neg (not_not_intro h0)]
  rfl
theorem namedR_hit {α : Type} {nm : α → ByteArray} {rest : α → Int} {l : List α} {k : Nat} {x : α} (hd : l.drop k = x :: l.drop (k + 1)) (h0 : errR nm rest l k x ≠ 0) :
    namedR nm rest (l.drop k) ((l.take k).map nm) k = ((k : Int), errR nm rest l k x) := by
  rw [hd, namedR]
  unfold errR at h0 ⊢
  split
  · rename_i h; rfl
  rename_i h1
  rw [if_neg h1] at h0
  split
  · rfl
  rename_i h2
  rw [if_neg h2] at h0
  rw [if_pos h0]
theorem namedR_end {α : Type} {nm : α → ByteArray} {rest : α → Int} {l : List α} {k : Nat} (hk : l.length ≤ k) : namedR nm rest (l.drop k) ((l.take k).map nm) k = (0, 0) := by
  rw [List.drop_of_length_le hk]; rfl
theorem spnBad_in (s : Spn) : ((!inB s.fr 0 100000) || (!inB s.un s.fr 100000)) = spnBad s := by
  rw [inB_not, inB_not, Bool.eq_iff_iff]
  simp only [spnBad, neverB, outB, Bool.or_eq_true, decide_eq_true_eq]
  omega
theorem oprE_1 {o : Opr} (h : (!inB o.grade 1 9) = true) : oprE o = 7 := by unfold oprE; rw [if_pos (by rw [← inB_not]; exact h)]
theorem oprE_2 {o : Opr} (h : (!inB o.grade 1 9) = false) (h2 : (6 : Int) < o.duty.length) : oprE o = 3 := by unfold oprE; rw [if_neg (by rw [← inB_not, h]; decide), if_pos h2]
theorem oprE_3 {o : Opr} (h : (!inB o.grade 1 9) = false) (h2 : ¬ (6 : Int) < o.duty.length) {s : Spn} (hs : s ∈ o.duty) (hb : spnBad s = true) : oprE o = 7 := by
  unfold oprE
  rw [if_neg (by rw [← inB_not, h]; decide), if_neg h2, if_pos (List.any_eq_true.2 ⟨s, hs, hb⟩)]
theorem oprE_0 {o : Opr} (h : (!inB o.grade 1 9) = false) (h2 : ¬ (6 : Int) < o.duty.length) (hs : ∀ k, k < o.duty.length → ∀ s, o.duty[k]? = some s → spnBad s = false) : oprE o = 0 := by
  unfold oprE
  rw [if_neg (by rw [← inB_not, h]; decide), if_neg h2, if_neg]
  intro ha
  obtain ⟨s, hs', hb⟩ := List.any_eq_true.1 ha
  obtain ⟨k, hk, rfl⟩ := List.getElem_of_mem hs'
  rw [hs k hk _ (List.getElem?_eq_getElem hk)] at hb
  cases hb
theorem kndR_in (k : Knd) : ((((!inB k.grade 1 9) || (!inB k.second 0 9)) || (!inB k.within 0 1000)) || (decide (k.second = 0) && decide (k.within ≠ 0))) = kndR k := by
  rw [inB_not, inB_not, inB_not, Bool.eq_iff_iff]
  simp only [kndR, outB, Bool.or_eq_true, Bool.and_eq_true, decide_eq_true_eq]
  omega
theorem kndE_1 {nk : Int} {k : Knd} (h : kndR k = true) : kndE nk k = 7 := by unfold kndE; rw [if_pos h]
theorem kndE_2 {nk : Int} {k : Knd} (h : kndR k = false) {x : Int} (hx : x ∈ k.keys) (hb : outB x 0 (nk - 1) = true) : kndE nk k = 4 := by
  unfold kndE; rw [if_neg (by rw [h]; decide), if_pos (List.any_eq_true.2 ⟨x, hx, hb⟩)]
theorem key_any {nk : Int} {k : Knd} (hs : ∀ j, j < k.keys.length → ∀ x, k.keys[j]? = some x → outB x 0 (nk - 1) = false) : ¬ (k.keys.any fun x => outB x 0 (nk - 1)) = true := by
  intro ha
  obtain ⟨s, hs', hb⟩ := List.any_eq_true.1 ha
  obtain ⟨j, hj, rfl⟩ := List.getElem_of_mem hs'
  rw [hs j hj _ (List.getElem?_eq_getElem hj)] at hb
  cases hb
theorem nodup_not {l : List Int} {j : Nat} {x : Int} (hx : l[j]? = some x) (hm : x ∈ l.take j) : ¬ l.Nodup := by
  intro hn
  obtain ⟨i, hi, e⟩ := List.getElem_of_mem hm
  rw [List.length_take] at hi
  rw [List.getElem_take] at e
  obtain ⟨hj, rfl⟩ := List.getElem?_eq_some_iff.1 hx
  exact List.pairwise_iff_getElem.1 hn i j (by omega) hj (by omega) e
theorem nodup_yes {l : List Int} (h : ∀ j, j < l.length → ∀ x, l[j]? = some x → x ∉ l.take j) : l.Nodup := by
  refine List.pairwise_iff_getElem.2 (fun i j hi hj hij e => ?_)
  exact h j hj _ (List.getElem?_eq_getElem hj) (List.mem_of_getElem? (i := i) (by rw [List.getElem?_take, if_pos hij, List.getElem?_eq_getElem hi, e]))
theorem kndE_3 {nk : Int} {k : Knd} (h : kndR k = false) (h2 : ¬ (k.keys.any fun x => outB x 0 (nk - 1)) = true) (hn : ¬ k.keys.Nodup) : kndE nk k = 5 := by
  unfold kndE; rw [if_neg (by rw [h]; decide), if_neg h2, if_pos hn]
theorem kndE_4 {nk : Int} {k : Knd} (h : kndR k = false) (h2 : ¬ (k.keys.any fun x => outB x 0 (nk - 1)) = true) (hn : k.keys.Nodup) (hs : kndS k = true) : kndE nk k = 2 := by
  unfold kndE; rw [if_neg (by rw [h]; decide), if_neg h2, if_neg (not_not_intro hn), if_pos hs]
theorem kndE_0 {nk : Int} {k : Knd} (h : kndR k = false) (h2 : ¬ (k.keys.any fun x => outB x 0 (nk - 1)) = true) (hn : k.keys.Nodup) (hs : kndS k = false) : kndE nk k = 0 := by
  unfold kndE; rw [if_neg (by rw [h]; decide), if_neg h2, if_neg (not_not_intro hn), if_neg (by rw [hs]; decide)]
theorem hasB_take {l : List Int} {j : Nat} {x n : Int} (h : l[j]? = some x) : (l.take (j + 1)).any (fun y => decide (y = n)) = ((l.take j).any (fun y => decide (y = n)) || decide (x = n)) := by
  rw [take_snoc h, List.any_append, List.any_cons, List.any_nil, Bool.or_false]
theorem any_mem {l : List Int} {n : Int} : (l.any fun y => decide (y = n)) = true ↔ n ∈ l := by simp [List.any_eq_true]
theorem sizeBad_in (c : Crew) : (((!inB c.ops.length 1 8) || decide ((8 : Int) < c.keys.length)) || (!inB c.kinds.length 1 8)) = sizeBad c := by rw [inB_not, inB_not]; rfl
theorem checkC_1 {c : Crew} (h : sizeBad c = true) : checkC c = (1, 0, 3) := by unfold checkC; rw [if_pos h]
theorem checkC_2 {c : Crew} {k : Int} {e : Int} (h : sizeBad c = false) (h2 : namedR (·.name) oprE c.ops [] 0 = (k, e)) (he : e ≠ 0) : checkC c = (2, k, e) := by
  unfold checkC; rw [if_neg (by rw [h]; decide), if_pos (by rw [h2]; exact he), h2]
theorem checkC_3 {c : Crew} {k : Int} {e : Int} (h : sizeBad c = false) (h2 : (namedR (·.name) oprE c.ops [] 0).2 = 0) (h3 : namedR id (fun _ => 0) c.keys [] 0 = (k, e)) (he : e ≠ 0) : checkC c = (3, k, e) := by
  unfold checkC; rw [if_neg (by rw [h]; decide), if_neg (not_not_intro h2), if_pos (by rw [h3]; exact he), h3]
theorem checkC_4 {c : Crew} {k : Int} {e : Int} (h : sizeBad c = false) (h2 : (namedR (·.name) oprE c.ops [] 0).2 = 0) (h3 : (namedR id (fun _ => 0) c.keys [] 0).2 = 0) (h4 : namedR (·.name) (kndE c.keys.length) c.kinds [] 0 = (k, e)) (he : e ≠ 0) : checkC c = (4, k, e) := by
  unfold checkC; rw [if_neg (by rw [h]; decide), if_neg (not_not_intro h2), if_neg (not_not_intro h3), if_pos (by rw [h4]; exact he), h4]
theorem checkC_0 {c : Crew} (h : sizeBad c = false) (h2 : (namedR (·.name) oprE c.ops [] 0).2 = 0) (h3 : (namedR id (fun _ => 0) c.keys [] 0).2 = 0) (h4 : (namedR (·.name) (kndE c.keys.length) c.kinds [] 0).2 = 0) : checkC c = (0, 0, 0) := by
  unfold checkC; rw [if_neg (by rw [h]; decide), if_neg (not_not_intro h2), if_neg (not_not_intro h3), if_neg (not_not_intro h4)]
def ableR (c : Crew) (k m : Int) : Int × Int × Bool := match pairsL c (kndAt c k) m with
  | [] => (0, 0, false)
  | p :: _ => (p.1, p.2, true)
end Bx
/- part Ck37 -/
namespace Go.Proofs.Ytghgnofilbnbaaa
open Go Bx
/-- barrage/barrageref10.minute -/
theorem c_rminute {m : Int} {w0 : World} : CV Try.prog 46 #[.int .i64 m] w0 (.bool (inB m 0 100000)) := by
  refine enter Try.func46 rfl Try.ntmps46 rfl ?_
  have hS := St.start w0
  refine seq ?_
  refine region ?_
  refine sv (yAsg rfl) ?_
  refine nil ?_
  show Code.wp _ _ _ _ _
  refine seq ?_
  refine region ?_
  refine sv (yMove rfl) ?_
  refine scall Try.call54 (.cons rfl (.cons rfl (.cons rfl .nil))) c_in ?_
  rintro _ w ⟨rfl, hE⟩; replace hS := hS.step hE; clear hE
  refine sv (yAsg rfl) ?_
  refine nil ?_
  show Code.wp _ _ _ _ _
  refine wp_ret ?_
  exact retV (res1 rfl rfl) hS.ext
/-- barrage/barrageref10.has -/
theorem c_has {l : List Int} {v : Value} {n0 : Int} {w0 : World} (hl : Sl w0 1 RInt v l) : CV Try.prog 92 #[v, .int .i64 n0] w0 (.bool (l.any fun y => decide (y = n0))) := by
  obtain ⟨al, cl, rfl, hlcap, hlmx, hel⟩ := id hl
  refine enter Try.func92 rfl Try.ntmps92 rfl ?_
  have hS := St.start w0
  refine seq ?_
  refine region ?_
  refine sv (yAsg rfl) ?_
  refine nil ?_
  show Code.wp _ _ _ _ _
  refine seq ?_
  refine seq ?_
  refine region ?_
  refine sv (yAsg rfl) ?_
  refine nil ?_
  show Code.wp _ _ _ _ _
  refine block ?_
  refine loop (fun f w zz => ∃ (k : Nat), f 0 = .slice al l.length cl ∧ f 1 = .int .i64 n0 ∧ f 5 = .int .i64 (k : Int) ∧ StX [] w0 w [] ∧ (k ≤ l.length) ∧ ((l.take k).any (fun y => decide (y = n0)) = false) ∧ zz = l.length - k) _ ⟨_, rfl, 0, rfl, rfl, rfl, hS, (Nat.zero_le _), (rfl), rfl⟩ ?_
  clear hS
  rintro f w _ ⟨k, h0, h1, h5, hS, hk, hN, rfl⟩
  refine seq ?_
  refine seq ?_
  refine region ?_
  refine sv (yMove h5) ?_
  refine sv (yMove h0) ?_
  refine sv (yLen rfl Try.underlying30) ?_
  refine sv (yLss rfl rfl) ?_
  refine nil ?_
  show Code.wp _ _ _ _ _
  refine cond rfl (fun c9 => ?_) (fun c9 => ?_)
  ·
    simp only [Bool.and_eq_true, Bool.or_eq_true, Bool.and_eq_false_iff, Bool.or_eq_false_iff, decide_eq_true_eq, decide_eq_false_iff_not, Bool.not_eq_true, Bool.not_eq_false, Bool.not_not, Bool.not_eq_eq_eq_not, Bool.not_true, Bool.not_false, Bool.false_eq_true, Bool.true_eq_false, ne_eq, Decidable.not_not, not_false_eq_true, not_true_eq_false] at c9
    refine skip ?_
    show Code.wp _ _ _ _ _
    refine seq ?_
    refine block ?_
    refine seq ?_
    refine region ?_
    obtain ⟨x, hxq, hdq⟩ := drop_of (l := l) (k := k) (by omega)
    obtain ⟨bq, oq, csq, haq, hlenq, hcsq, hRq⟩ := hel (k) (by omega)
    obtain rfl : x = l[k] := (List.getElem?_eq_some_iff.1 hxq).2.symm
    generalize l[k] = x at hxq hdq hRq
    obtain ⟨rfl, hxi⟩ := hRq
    refine sv (yMove h0) ?_
    refine sv (yMove h5) ?_
    refine sv (yIxa rfl haq rfl Try.runUnderlying30 Try.sizeOf3 (by omega) (by omega)) ?_
    refine sv (yLd rfl Try.isAgg3 ((hcsq.ext hS.ext).one)) ?_
    refine sv (yMove h1) ?_
    refine sv (yEql rfl rfl) ?_
    refine nil ?_
    show Code.wp _ _ _ _ _
    refine cond rfl (fun c17 => ?_) (fun c17 => ?_)
    ·
      simp only [Bool.and_eq_true, Bool.or_eq_true, Bool.and_eq_false_iff, Bool.or_eq_false_iff, decide_eq_true_eq, decide_eq_false_iff_not, Bool.not_eq_true, Bool.not_eq_false, Bool.not_not, Bool.not_eq_eq_eq_not, Bool.not_true, Bool.not_false, Bool.false_eq_true, Bool.true_eq_false, ne_eq, Decidable.not_not, not_false_eq_true, not_true_eq_false] at c17
      refine seq ?_
      refine region ?_
      refine sv (yAsg rfl) ?_
      refine nil ?_
      show Code.wp _ _ _ _ _
      refine wp_ret (blockR (thenR (thenR (blockR (thenR ?_)))))
      exact retV (res1 rfl (eqB (any_mem.2 (by rw [← c17]; exact List.mem_of_getElem? hxq)))) hS.ext
    ·
      simp only [Bool.and_eq_true, Bool.or_eq_true, Bool.and_eq_false_iff, Bool.or_eq_false_iff, decide_eq_true_eq, decide_eq_false_iff_not, Bool.not_eq_true, Bool.not_eq_false, Bool.not_not, Bool.not_eq_eq_eq_not, Bool.not_true, Bool.not_false, Bool.false_eq_true, Bool.true_eq_false, ne_eq, Decidable.not_not, not_false_eq_true, not_true_eq_false] at c17
      refine skip ?_
      show Code.wp _ _ _ _ _
      refine region ?_
      refine sv (yMove h5) ?_
      refine sv (yAdd rfl rfl ⟨by omega, by omega⟩) ?_
      refine sv (yAsg rfl) ?_
      refine nil ?_
      exact ⟨_, _, rfl, ⟨k + 1, h0, h1, rfl, hS, (by omega), (by rw [hasB_take hxq, hN, decide_eq_false c17]; rfl), rfl⟩, by omega⟩
  ·
    simp only [Bool.and_eq_true, Bool.or_eq_true, Bool.and_eq_false_iff, Bool.or_eq_false_iff, decide_eq_true_eq, decide_eq_false_iff_not, Bool.not_eq_true, Bool.not_eq_false, Bool.not_not, Bool.not_eq_eq_eq_not, Bool.not_true, Bool.not_false, Bool.false_eq_true, Bool.true_eq_false, ne_eq, Decidable.not_not, not_false_eq_true, not_true_eq_false] at c9
    refine exit ?_
    show Code.wp _ _ _ _ _
    refine seq ?_
    refine region ?_
    refine sv (yAsg rfl) ?_
    refine nil ?_
    show Code.wp _ _ _ _ _
    obtain rfl : k = l.length := by omega
    rw [List.take_length] at hN
    refine wp_ret ?_
    exact retV (res1 rfl (eqB hN)) hS.ext
set_option maxHeartbeats 1000000 in
/-- barrage/barrageref10.operator -/
theorem c_roper {c : Crew} {cs : List Value} {i : Nat} {x : Opr} {w0 : World} (h : RCrew w0 cs c) (hx : c.ops[i]? = some x) : CV Try.prog 67 #[.agg cs.toArray, .int .i64 (i : Int)] w0 (.int .i64 (errR (·.name) oprE c.ops i x)) := by
  obtain ⟨ov, kv, nv, rfl, hso, hsk, hsn, hrm⟩ := id h
  obtain ⟨a, cap, rfl, hcap, hmx, hel⟩ := id hso
  have hil := (List.getElem?_eq_some_iff.1 hx).1
  obtain ⟨y, hxq, hdq⟩ := drop_of (l := c.ops) (k := i) (by omega)
  obtain ⟨bq, oq, csq, haq, hlenq, hcsq, hRq⟩ := hel (i) (by omega)
  obtain rfl : y = c.ops[i] := (List.getElem?_eq_some_iff.1 hxq).2.symm
  generalize c.ops[i] = y at hxq hdq hRq
  have hR := hRq
  obtain rfl : x = y := Option.some.inj (hx.symm.trans hxq)
  obtain ⟨dv, rfl, hnm, hgr, hsd, -⟩ := id hR
  obtain ⟨ad, cd, rfl, hdcap, hdmx, held⟩ := id hsd
  refine enter Try.func67 rfl Try.ntmps67 rfl ?_
  have hS := St.start w0
  refine seq ?_
  refine region ?_
  refine sbox hS rfl rfl ?_; clear hS; intro b2 w hS
  refine sv (yAsg rfl) ?_
  refine nil ?_
  show Code.wp _ _ _ _ _
  refine seq ?_
  refine region ?_
  refine sv (fa26_0 rfl) ?_
  refine sv (yLdB rfl Try.isAgg22 (hS.at _) rfl) ?_
  refine sv (yMove rfl) ?_
  refine sv (yIxa rfl haq rfl Try.runUnderlying22 Try.sizeOf42 (by omega) (by omega)) ?_
  refine sv (yLdA rfl Try.isAgg42 Try.sizeOf42 (hcsq.ext hS.ext) rfl) ?_
  refine salloc hS Try.zeroValue42 rfl ?_; clear hS; intro b5 w hS
  refine sst hS rfl rfl Try.sizeOf42 rfl rfl rfl rfl ?_; clear hS; intro w hS
  refine nil ?_
  show Code.wp _ _ _ _ _
  refine seq ?_
  refine seq ?_
  refine region ?_
  replace hS : StX [] w0 w (blk b5 [.string x.name, .int .i64 x.grade, .slice ad x.duty.length cd] 42 :: blk b2 [.slice a c.ops.length cap, kv, nv] 26 :: []) := hS
  refine sv (fa42_0 rfl) ?_
  refine sv (yLdB rfl Try.isAgg9 (hS.at _) rfl) ?_
  refine scall Try.call53 (.cons rfl .nil) (c_rName hnm) ?_
  rintro _ w ⟨rfl, hE⟩; replace hS := hS.step hE; clear hE
  refine sv (yNot rfl) ?_
  refine nil ?_
  show Code.wp _ _ _ _ _
  refine cond rfl (fun c16 => ?_) (fun c16 => ?_)
  ·
    refine seq ?_
    refine region ?_
    refine sv (yAsg rfl) ?_
    refine nil ?_
    show Code.wp _ _ _ _ _
    refine wp_ret (thenR ?_)
    exact retV (res1 rfl (eqI (errR_form c16))) hS.ext
  ·
    refine skip ?_
    show Code.wp _ _ _ _ _
    refine seq ?_
    refine seq ?_
    refine region ?_
    refine sv (yAsg rfl) ?_
    refine nil ?_
    show Code.wp _ _ _ _ _
    refine block ?_
    refine loop (fun f w zz => ∃ (k : Nat), f 1 = .int .i64 (i : Int) ∧ f 2 = .pointer (some ⟨b2, 0, none⟩) ∧ f 5 = .pointer (some ⟨b5, 0, none⟩) ∧ f 6 = .int .i64 (k : Int) ∧ StX [] w0 w [blk b5 [.string x.name, .int .i64 x.grade, .slice ad x.duty.length cd] 42, blk b2 [.slice a c.ops.length cap, kv, nv] 26] ∧ (k ≤ i) ∧ (∀ q, q < k → ∀ u : Opr, c.ops[q]? = some u → u.name ≠ x.name) ∧ zz = i - k) _ ⟨_, rfl, 0, rfl, rfl, rfl, rfl, hS, (Nat.zero_le _), (fun q hq => absurd hq (Nat.not_lt_zero q)), rfl⟩ ?_
    clear hS
    rintro f w _ ⟨k, h1, h2, h5, h6, hS, hk, hN, rfl⟩
    refine seq ?_
    refine seq ?_
    refine region ?_
    refine sv (yMove h6) ?_
    refine sv (yMove h1) ?_
    refine sv (yLss rfl rfl) ?_
    refine nil ?_
    show Code.wp _ _ _ _ _
    refine cond rfl (fun c19 => ?_) (fun c19 => ?_)
    ·
      simp only [Bool.and_eq_true, Bool.or_eq_true, Bool.and_eq_false_iff, Bool.or_eq_false_iff, decide_eq_true_eq, decide_eq_false_iff_not, Bool.not_eq_true, Bool.not_eq_false, Bool.not_not, Bool.not_eq_eq_eq_not, Bool.not_true, Bool.not_false, Bool.false_eq_true, Bool.true_eq_false, ne_eq, Decidable.not_not, not_false_eq_true, not_true_eq_false] at c19
      refine skip ?_
      show Code.wp _ _ _ _ _
      refine seq ?_
      refine block ?_
      refine seq ?_
      refine region_draw mixed (by kernel_rfl) hS ?_
      obtain ⟨u, hxu, hdu⟩ := drop_of (l := c.ops) (k := k) (by omega)
      obtain ⟨bu, ou, csu, hau, hlenu, hcsu, hRu⟩ := hel (k) (by omega)
      obtain rfl : u = c.ops[k] := (List.getElem?_eq_some_iff.1 hxu).2.symm
      generalize c.ops[k] = u at hxu hdu hRu
      have hRv := hRu
      obtain ⟨duv, rfl, -⟩ := id hRv
      refine qv (fun w hS => (fa26_0 h2)) ?_
      refine qv (fun w hS => (yLdB rfl Try.isAgg22 (hS.at _) rfl)) ?_
      refine qv (fun w hS => (yMove h6)) ?_
      refine qv (fun w hS => (yIxa rfl hau rfl Try.runUnderlying22 Try.sizeOf42 (by omega) (by omega))) ?_
      refine qv (fun w hS => (fa42_0 rfl)) ?_
      refine qv (fun w hS => (yLd rfl Try.isAgg9 ((hcsu.ext hS.ext).at (j := 0) rfl))) ?_
      refine qv (fun w hS => (fa42_0 h5)) ?_
      refine qv (fun w hS => (yLdB rfl Try.isAgg9 (hS.at _) rfl)) ?_
      refine qv (fun w hS => (ySEq rfl rfl)) ?_
      clear hS; refine qnil (fun w hS => ?_)
      show Code.wp _ _ _ _ _
      refine cond rfl (fun c30 => ?_) (fun c30 => ?_)
      ·
        simp only [Bool.and_eq_true, Bool.or_eq_true, Bool.and_eq_false_iff, Bool.or_eq_false_iff, decide_eq_true_eq, decide_eq_false_iff_not, Bool.not_eq_true, Bool.not_eq_false, Bool.not_not, Bool.not_eq_eq_eq_not, Bool.not_true, Bool.not_false, Bool.false_eq_true, Bool.true_eq_false, ne_eq, Decidable.not_not, not_false_eq_true, not_true_eq_false] at c30
        refine seq ?_
        refine region ?_
        refine sv (yAsg rfl) ?_
        refine nil ?_
        show Code.wp _ _ _ _ _
        refine wp_ret (blockR (thenR (thenR (blockR (thenR ?_)))))
        exact retV (res1 rfl (eqI (errR_twice c16 hxu (by omega) c30))) hS.ext
      ·
        simp only [Bool.and_eq_true, Bool.or_eq_true, Bool.and_eq_false_iff, Bool.or_eq_false_iff, decide_eq_true_eq, decide_eq_false_iff_not, Bool.not_eq_true, Bool.not_eq_false, Bool.not_not, Bool.not_eq_eq_eq_not, Bool.not_true, Bool.not_false, Bool.false_eq_true, Bool.true_eq_false, ne_eq, Decidable.not_not, not_false_eq_true, not_true_eq_false] at c30
        refine skip ?_
        show Code.wp _ _ _ _ _
        refine region ?_
        refine sv (yMove h6) ?_
        refine sv (yAdd rfl rfl ⟨by omega, by omega⟩) ?_
        refine sv (yAsg rfl) ?_
        refine nil ?_
        exact ⟨_, _, rfl, ⟨k + 1, h1, h2, h5, rfl, hS, (by omega), (snoc hN (fun v hv => by cases Option.some.inj (hxu.symm.trans hv); exact c30)), rfl⟩, by omega⟩
    ·
      simp only [Bool.and_eq_true, Bool.or_eq_true, Bool.and_eq_false_iff, Bool.or_eq_false_iff, decide_eq_true_eq, decide_eq_false_iff_not, Bool.not_eq_true, Bool.not_eq_false, Bool.not_not, Bool.not_eq_eq_eq_not, Bool.not_true, Bool.not_false, Bool.false_eq_true, Bool.true_eq_false, ne_eq, Decidable.not_not, not_false_eq_true, not_true_eq_false] at c19
      have hne : errR (·.name) oprE c.ops i x = oprE x := errR_rest c16 (fun q hq => hN q (by omega))
      refine exit ?_
      show Code.wp _ _ _ _ _
      refine seq ?_
      refine seq ?_
      refine region ?_
      refine sv (fa42_1 h5) ?_
      refine sv (yLdB rfl Try.isAgg3 (hS.at _) rfl) ?_
      refine scall Try.call54 (.cons rfl (.cons rfl (.cons rfl .nil))) c_in ?_
      rintro _ w ⟨rfl, hE⟩; replace hS := hS.step hE; clear hE
      refine sv (yNot rfl) ?_
      refine nil ?_
      show Code.wp _ _ _ _ _
      refine cond rfl (fun c34 => ?_) (fun c34 => ?_)
      ·
        refine seq ?_
        refine region ?_
        refine sv (yAsg rfl) ?_
        refine nil ?_
        show Code.wp _ _ _ _ _
        refine wp_ret (thenR ?_)
        exact retV (res1 rfl (eqI (hne.trans (oprE_1 c34)))) hS.ext
      ·
        refine skip ?_
        show Code.wp _ _ _ _ _
        refine seq ?_
        refine seq ?_
        refine region ?_
        refine sv (fa42_2 h5) ?_
        refine sv (yLdB rfl Try.isAgg40 (hS.at _) rfl) ?_
        refine sv (yLen rfl Try.underlying40) ?_
        refine sv (yGtr rfl rfl) ?_
        refine nil ?_
        show Code.wp _ _ _ _ _
        refine cond rfl (fun c38 => ?_) (fun c38 => ?_)
        ·
          simp only [Bool.and_eq_true, Bool.or_eq_true, Bool.and_eq_false_iff, Bool.or_eq_false_iff, decide_eq_true_eq, decide_eq_false_iff_not, Bool.not_eq_true, Bool.not_eq_false, Bool.not_not, Bool.not_eq_eq_eq_not, Bool.not_true, Bool.not_false, Bool.false_eq_true, Bool.true_eq_false, ne_eq, Decidable.not_not, not_false_eq_true, not_true_eq_false] at c38
          refine seq ?_
          refine region ?_
          refine sv (yAsg rfl) ?_
          refine nil ?_
          show Code.wp _ _ _ _ _
          refine wp_ret (thenR ?_)
          exact retV (res1 rfl (eqI (hne.trans (oprE_2 c34 c38)))) hS.ext
        ·
          simp only [Bool.and_eq_true, Bool.or_eq_true, Bool.and_eq_false_iff, Bool.or_eq_false_iff, decide_eq_true_eq, decide_eq_false_iff_not, Bool.not_eq_true, Bool.not_eq_false, Bool.not_not, Bool.not_eq_eq_eq_not, Bool.not_true, Bool.not_false, Bool.false_eq_true, Bool.true_eq_false, ne_eq, Decidable.not_not, not_false_eq_true, not_true_eq_false] at c38
          refine skip ?_
          show Code.wp _ _ _ _ _
          refine seq ?_
          refine seq ?_
          refine region ?_
          refine sv (yAsg rfl) ?_
          refine nil ?_
          show Code.wp _ _ _ _ _
          refine block ?_
          refine loop (fun f w zz => ∃ (j : Nat), f 5 = .pointer (some ⟨b5, 0, none⟩) ∧ f 7 = .int .i64 (j : Int) ∧ StX [] w0 w [blk b5 [.string x.name, .int .i64 x.grade, .slice ad x.duty.length cd] 42, blk b2 [.slice a c.ops.length cap, kv, nv] 26] ∧ (j ≤ x.duty.length) ∧ (∀ q, q < j → ∀ s, x.duty[q]? = some s → spnBad s = false) ∧ zz = x.duty.length - j) _ ⟨_, rfl, 0, h5, rfl, hS, (Nat.zero_le _), (fun q hq => absurd hq (Nat.not_lt_zero q)), rfl⟩ ?_
          clear hS
          rintro f w _ ⟨j, h5, h7, hS, hj, hM, rfl⟩
          refine seq ?_
          refine seq ?_
          refine region ?_
          refine sv (yMove h7) ?_
          refine sv (fa42_2 h5) ?_
          refine sv (yLdB rfl Try.isAgg40 (hS.at _) rfl) ?_
          refine sv (yLen rfl Try.underlying40) ?_
          refine sv (yLss rfl rfl) ?_
          refine nil ?_
          show Code.wp _ _ _ _ _
          refine cond rfl (fun c43 => ?_) (fun c43 => ?_)
          ·
            simp only [Bool.and_eq_true, Bool.or_eq_true, Bool.and_eq_false_iff, Bool.or_eq_false_iff, decide_eq_true_eq, decide_eq_false_iff_not, Bool.not_eq_true, Bool.not_eq_false, Bool.not_not, Bool.not_eq_eq_eq_not, Bool.not_true, Bool.not_false, Bool.false_eq_true, Bool.true_eq_false, ne_eq, Decidable.not_not, not_false_eq_true, not_true_eq_false] at c43
            refine skip ?_
            show Code.wp _ _ _ _ _
            refine seq ?_
            refine block ?_
            refine seq ?_
            refine region_draw mixed (by kernel_rfl) hS ?_
            obtain ⟨s, hxs, hds⟩ := drop_of (l := x.duty) (k := j) (by omega)
            obtain ⟨bs, os, css, has, hlens, hcss, hRs⟩ := held (j) (by omega)
            obtain rfl : s = x.duty[j] := (List.getElem?_eq_some_iff.1 hxs).2.symm
            generalize x.duty[j] = s at hxs hds hRs
            obtain ⟨rfl, hsi⟩ := hRs
            refine qv (fun w hS => (fa42_2 h5)) ?_
            refine qv (fun w hS => (yLdB rfl Try.isAgg40 (hS.at _) rfl)) ?_
            refine qv (fun w hS => (yMove h7)) ?_
            refine qv (fun w hS => (yIxa rfl has rfl Try.runUnderlying40 Try.sizeOf44 (by omega) (by omega))) ?_
            refine qv (fun w hS => (fa44_0 rfl)) ?_
            refine qv (fun w hS => (yLd rfl Try.isAgg3 ((hcss.ext hS.ext).at (j := 0) rfl))) ?_
            refine qcall Try.call46 (.cons rfl .nil) (fun w hS => c_rminute) ?_
            refine qv (fun w hS => (yNot rfl)) ?_
            refine qv (fun w hS => (yMove rfl)) ?_
            refine qg rfl rfl rfl (fun g w hS => (fa42_2 h5)) (fun v55 g55 => ?_)
            refine qg rfl rfl rfl (fun g w hS => (yLdB (g55.1 g) Try.isAgg40 (hS.at _) rfl)) (fun v56 g56 => ?_)
            refine qg rfl rfl rfl (fun g w hS => (yMove h7)) (fun v57 g57 => ?_)
            refine qg rfl rfl rfl (fun g w hS => (yIxa (g56.1 g) has (g57.1 g) Try.runUnderlying40 Try.sizeOf44 (by omega) (by omega))) (fun v58 g58 => ?_)
            refine qg rfl rfl rfl (fun g w hS => (fa44_1 (g58.1 g))) (fun v59 g59 => ?_)
            refine qg rfl rfl rfl (fun g w hS => (yLd (g59.1 g) Try.isAgg3 ((hcss.ext hS.ext).at (j := 1) rfl))) (fun v60 g60 => ?_)
            refine qg rfl rfl rfl (fun g w hS => (fa42_2 h5)) (fun v61 g61 => ?_)
            refine qg rfl rfl rfl (fun g w hS => (yLdB (g61.1 g) Try.isAgg40 (hS.at _) rfl)) (fun v62 g62 => ?_)
            refine qg rfl rfl rfl (fun g w hS => (yMove h7)) (fun v63 g63 => ?_)
            refine qg rfl rfl rfl (fun g w hS => (yIxa (g62.1 g) has (g63.1 g) Try.runUnderlying40 Try.sizeOf44 (by omega) (by omega))) (fun v64 g64 => ?_)
            refine qg rfl rfl rfl (fun g w hS => (fa44_0 (g64.1 g))) (fun v65 g65 => ?_)
            refine qg rfl rfl rfl (fun g w hS => (yLd (g65.1 g) Try.isAgg3 ((hcss.ext hS.ext).at (j := 0) rfl))) (fun v66 g66 => ?_)
            refine qgc rfl rfl rfl Try.call54 (fun g => (.cons (g60.1 g) (.cons (g66.1 g) (.cons rfl .nil)))) (fun g w hS => c_in) (fun v67 g67 => ?_)
            refine qg rfl rfl rfl (fun g w hS => (yNot (g67.1 g))) (fun v68 g68 => ?_)
            refine qv (fun w hS => (yOr rfl rfl (fun hB => (g68.1 hB)))) ?_
            clear hS; refine qnil (fun w hS => ?_)
            show Code.wp _ _ _ _ _
            refine cond rfl (fun c69 => ?_) (fun c69 => ?_)
            ·
              refine seq ?_
              refine region ?_
              refine sv (yAsg rfl) ?_
              refine nil ?_
              show Code.wp _ _ _ _ _
              refine wp_ret (blockR (thenR (thenR (blockR (thenR ?_)))))
              exact retV (res1 rfl (eqI (hne.trans (oprE_3 c34 c38 (List.mem_of_getElem? hxs) ((spnBad_in s).symm.trans c69))))) hS.ext
            ·
              refine skip ?_
              show Code.wp _ _ _ _ _
              refine region ?_
              refine sv (yMove h7) ?_
              refine sv (yAdd rfl rfl ⟨by omega, by omega⟩) ?_
              refine sv (yAsg rfl) ?_
              refine nil ?_
              exact ⟨_, _, rfl, ⟨j + 1, h5, rfl, hS, (by omega), (snoc hM (fun v hv => by cases Option.some.inj (hxs.symm.trans hv); exact (spnBad_in s).symm.trans c69)), rfl⟩, by omega⟩
          ·
            simp only [Bool.and_eq_true, Bool.or_eq_true, Bool.and_eq_false_iff, Bool.or_eq_false_iff, decide_eq_true_eq, decide_eq_false_iff_not, Bool.not_eq_true, Bool.not_eq_false, Bool.not_not, Bool.not_eq_eq_eq_not, Bool.not_true, Bool.not_false, Bool.false_eq_true, Bool.true_eq_false, ne_eq, Decidable.not_not, not_false_eq_true, not_true_eq_false] at c43
            refine exit ?_
            show Code.wp _ _ _ _ _
            refine seq ?_
            refine region ?_
            refine sv (yAsg rfl) ?_
            refine nil ?_
            show Code.wp _ _ _ _ _
            refine wp_ret ?_
            exact retV (res1 rfl (eqI (hne.trans (oprE_0 c34 c38 (fun q hq => hM q (by omega)))))) hS.ext
set_option maxHeartbeats 1000000 in
/-- barrage/barrageref10.key -/
theorem c_rkey {c : Crew} {cs : List Value} {i : Nat} {x : ByteArray} {w0 : World} (h : RCrew w0 cs c) (hx : c.keys[i]? = some x) : CV Try.prog 68 #[.agg cs.toArray, .int .i64 (i : Int)] w0 (.int .i64 (errR id (fun _ => 0) c.keys i x)) := by
  obtain ⟨ov, kv, nv, rfl, hso, hsk, hsn, hrm⟩ := id h
  obtain ⟨a, cap, rfl, hcap, hmx, hel⟩ := id hso
  obtain ⟨ak, ck, rfl, hckap, hkmx, helk⟩ := id hsk
  have hil := (List.getElem?_eq_some_iff.1 hx).1
  obtain ⟨y, hxq, hdq⟩ := drop_of (l := c.keys) (k := i) (by omega)
  obtain ⟨bq, oq, csq, haq, hlenq, hcsq, hRq⟩ := helk (i) (by omega)
  obtain rfl : y = c.keys[i] := (List.getElem?_eq_some_iff.1 hxq).2.symm
  generalize c.keys[i] = y at hxq hdq hRq
  obtain ⟨rfl, hnm⟩ := hRq
  obtain rfl : x = y := Option.some.inj (hx.symm.trans hxq)
  refine enter Try.func68 rfl Try.ntmps68 rfl ?_
  have hS := St.start w0
  refine seq ?_
  refine region ?_
  refine sbox hS rfl rfl ?_; clear hS; intro b2 w hS
  refine sv (yAsg rfl) ?_
  refine nil ?_
  show Code.wp _ _ _ _ _
  refine seq ?_
  refine seq ?_
  refine region ?_
  refine sv (fa26_1 rfl) ?_
  refine sv (yLdB rfl Try.isAgg23 (hS.at _) rfl) ?_
  refine sv (yMove rfl) ?_
  refine sv (yIxa rfl haq rfl Try.runUnderlying23 Try.sizeOf9 (by omega) (by omega)) ?_
  refine sv (yLd rfl Try.isAgg9 ((hcsq.ext hS.ext).one)) ?_
  refine scall Try.call53 (.cons rfl .nil) (c_rName hnm) ?_
  rintro _ w ⟨rfl, hE⟩; replace hS := hS.step hE; clear hE
  refine sv (yNot rfl) ?_
  refine nil ?_
  show Code.wp _ _ _ _ _
  refine cond rfl (fun c12 => ?_) (fun c12 => ?_)
  ·
    refine seq ?_
    refine region ?_
    refine sv (yAsg rfl) ?_
    refine nil ?_
    show Code.wp _ _ _ _ _
    refine wp_ret (thenR ?_)
    exact retV (res1 rfl (eqI (errR_form c12))) hS.ext
  ·
    refine skip ?_
    show Code.wp _ _ _ _ _
    refine seq ?_
    refine seq ?_
    refine region ?_
    refine sv (yAsg rfl) ?_
    refine nil ?_
    show Code.wp _ _ _ _ _
    refine block ?_
    refine loop (fun f w zz => ∃ (k : Nat), f 1 = .int .i64 (i : Int) ∧ f 2 = .pointer (some ⟨b2, 0, none⟩) ∧ f 5 = .int .i64 (k : Int) ∧ StX [] w0 w [blk b2 [.slice a c.ops.length cap, .slice ak c.keys.length ck, nv] 26] ∧ (k ≤ i) ∧ (∀ q, q < k → ∀ u, c.keys[q]? = some u → id u ≠ id x) ∧ zz = i - k) _ ⟨_, rfl, 0, rfl, rfl, rfl, hS, (Nat.zero_le _), (fun q hq => absurd hq (Nat.not_lt_zero q)), rfl⟩ ?_
    clear hS
    rintro f w _ ⟨k, h1, h2, h5, hS, hk, hN, rfl⟩
    refine seq ?_
    refine seq ?_
    refine region ?_
    refine sv (yMove h5) ?_
    refine sv (yMove h1) ?_
    refine sv (yLss rfl rfl) ?_
    refine nil ?_
    show Code.wp _ _ _ _ _
    refine cond rfl (fun c15 => ?_) (fun c15 => ?_)
    ·
      simp only [Bool.and_eq_true, Bool.or_eq_true, Bool.and_eq_false_iff, Bool.or_eq_false_iff, decide_eq_true_eq, decide_eq_false_iff_not, Bool.not_eq_true, Bool.not_eq_false, Bool.not_not, Bool.not_eq_eq_eq_not, Bool.not_true, Bool.not_false, Bool.false_eq_true, Bool.true_eq_false, ne_eq, Decidable.not_not, not_false_eq_true, not_true_eq_false] at c15
      refine skip ?_
      show Code.wp _ _ _ _ _
      refine seq ?_
      refine block ?_
      refine seq ?_
      refine region_draw mixed (by kernel_rfl) hS ?_
      obtain ⟨u, hxu, hdu⟩ := drop_of (l := c.keys) (k := k) (by omega)
      obtain ⟨bu, ou, csu, hau, hlenu, hcsu, hRu⟩ := helk (k) (by omega)
      obtain rfl : u = c.keys[k] := (List.getElem?_eq_some_iff.1 hxu).2.symm
      generalize c.keys[k] = u at hxu hdu hRu
      obtain ⟨rfl, hun⟩ := hRu
      refine qv (fun w hS => (fa26_1 h2)) ?_
      refine qv (fun w hS => (yLdB rfl Try.isAgg23 (hS.at _) rfl)) ?_
      refine qv (fun w hS => (yMove h5)) ?_
      refine qv (fun w hS => (yIxa rfl hau rfl Try.runUnderlying23 Try.sizeOf9 (by omega) (by omega))) ?_
      refine qv (fun w hS => (yLd rfl Try.isAgg9 ((hcsu.ext hS.ext).one))) ?_
      refine qv (fun w hS => (fa26_1 h2)) ?_
      refine qv (fun w hS => (yLdB rfl Try.isAgg23 (hS.at _) rfl)) ?_
      refine qv (fun w hS => (yMove h1)) ?_
      refine qv (fun w hS => (yIxa rfl haq rfl Try.runUnderlying23 Try.sizeOf9 (by omega) (by omega))) ?_
      refine qv (fun w hS => (yLd rfl Try.isAgg9 ((hcsq.ext hS.ext).one))) ?_
      refine qv (fun w hS => (ySEq rfl rfl)) ?_
      clear hS; refine qnil (fun w hS => ?_)
      show Code.wp _ _ _ _ _
      refine cond rfl (fun c28 => ?_) (fun c28 => ?_)
      ·
        simp only [Bool.and_eq_true, Bool.or_eq_true, Bool.and_eq_false_iff, Bool.or_eq_false_iff, decide_eq_true_eq, decide_eq_false_iff_not, Bool.not_eq_true, Bool.not_eq_false, Bool.not_not, Bool.not_eq_eq_eq_not, Bool.not_true, Bool.not_false, Bool.false_eq_true, Bool.true_eq_false, ne_eq, Decidable.not_not, not_false_eq_true, not_true_eq_false] at c28
        refine seq ?_
        refine region ?_
        refine sv (yAsg rfl) ?_
        refine nil ?_
        show Code.wp _ _ _ _ _
        refine wp_ret (blockR (thenR (thenR (blockR (thenR ?_)))))
        exact retV (res1 rfl (eqI (errR_twice c12 hxu (by omega) c28))) hS.ext
      ·
        simp only [Bool.and_eq_true, Bool.or_eq_true, Bool.and_eq_false_iff, Bool.or_eq_false_iff, decide_eq_true_eq, decide_eq_false_iff_not, Bool.not_eq_true, Bool.not_eq_false, Bool.not_not, Bool.not_eq_eq_eq_not, Bool.not_true, Bool.not_false, Bool.false_eq_true, Bool.true_eq_false, ne_eq, Decidable.not_not, not_false_eq_true, not_true_eq_false] at c28
        refine skip ?_
        show Code.wp _ _ _ _ _
        refine region ?_
        refine sv (yMove h5) ?_
        refine sv (yAdd rfl rfl ⟨by omega, by omega⟩) ?_
        refine sv (yAsg rfl) ?_
        refine nil ?_
        exact ⟨_, _, rfl, ⟨k + 1, h1, h2, rfl, hS, (by omega), (snoc hN (fun v hv => by cases Option.some.inj (hxu.symm.trans hv); exact c28)), rfl⟩, by omega⟩
    ·
      simp only [Bool.and_eq_true, Bool.or_eq_true, Bool.and_eq_false_iff, Bool.or_eq_false_iff, decide_eq_true_eq, decide_eq_false_iff_not, Bool.not_eq_true, Bool.not_eq_false, Bool.not_not, Bool.not_eq_eq_eq_not, Bool.not_true, Bool.not_false, Bool.false_eq_true, Bool.true_eq_false, ne_eq, Decidable.not_not, not_false_eq_true, not_true_eq_false] at c15
      refine exit ?_
      show Code.wp _ _ _ _ _
      refine seq ?_
      refine region ?_
      refine sv (yAsg rfl) ?_
      refine nil ?_
      show Code.wp _ _ _ _ _
      refine wp_ret ?_
      exact retV (res1 rfl (eqI (errR_rest c12 (fun q hq => hN q (by omega))))) hS.ext
set_option maxHeartbeats 2000000 in
/-- barrage/barrageref10.kind -/
theorem c_rkind {c : Crew} {cs : List Value} {i : Nat} {x : Knd} {w0 : World} (h : RCrew w0 cs c) (hx : c.kinds[i]? = some x) : CV Try.prog 69 #[.agg cs.toArray, .int .i64 (i : Int)] w0 (.int .i64 (errR (·.name) (kndE c.keys.length) c.kinds i x)) := by
  obtain ⟨ov, kv, nv, rfl, hso, hsk, hsn, hrm⟩ := id h
  obtain ⟨a, cap, rfl, hcap, hmx, hel⟩ := id hso
  obtain ⟨ak, ck, rfl, hckap, hkmx, helk⟩ := id hsk
  obtain ⟨an, cn, rfl, hncap, hnmx, heln⟩ := id hsn
  have hil := (List.getElem?_eq_some_iff.1 hx).1
  obtain ⟨y, hxq, hdq⟩ := drop_of (l := c.kinds) (k := i) (by omega)
  obtain ⟨bq, oq, csq, haq, hlenq, hcsq, hRq⟩ := heln (i) (by omega)
  obtain rfl : y = c.kinds[i] := (List.getElem?_eq_some_iff.1 hxq).2.symm
  generalize c.kinds[i] = y at hxq hdq hRq
  obtain ⟨xv, rfl, hnm, -, -, -, hsx, -⟩ := hRq
  obtain rfl : x = y := Option.some.inj (hx.symm.trans hxq)
  obtain ⟨axk, cxk, rfl, hxcap, hxmx, helx⟩ := id hsx
  refine enter Try.func69 rfl Try.ntmps69 rfl ?_
  have hS := St.start w0
  refine seq ?_
  refine region ?_
  refine sbox hS rfl rfl ?_; clear hS; intro b2 w hS
  refine sv (yAsg rfl) ?_
  refine nil ?_
  show Code.wp _ _ _ _ _
  refine seq ?_
  refine region ?_
  refine sv (fa26_2 rfl) ?_
  refine sv (yLdB rfl Try.isAgg24 (hS.at _) rfl) ?_
  refine sv (yMove rfl) ?_
  refine sv (yIxa rfl haq rfl Try.runUnderlying24 Try.sizeOf79 (by omega) (by omega)) ?_
  refine sv (yLdA rfl Try.isAgg79 Try.sizeOf79 (hcsq.ext hS.ext) rfl) ?_
  refine salloc hS Try.zeroValue79 rfl ?_; clear hS; intro b5 w hS
  refine sst hS rfl rfl Try.sizeOf79 rfl rfl rfl rfl ?_; clear hS; intro w hS
  refine nil ?_
  show Code.wp _ _ _ _ _
  refine seq ?_
  refine seq ?_
  refine region ?_
  replace hS : StX [] w0 w (blk b5 [.string x.name, .int .i64 x.grade, .int .i64 x.second, .int .i64 x.within, .slice axk x.keys.length cxk, .bool x.split] 79 :: blk b2 [.slice a c.ops.length cap, .slice ak c.keys.length ck, .slice an c.kinds.length cn] 26 :: []) := hS
  refine sv (fa79_0 rfl) ?_
  refine sv (yLdB rfl Try.isAgg9 (hS.at _) rfl) ?_
  refine scall Try.call53 (.cons rfl .nil) (c_rName hnm) ?_
  rintro _ w ⟨rfl, hE⟩; replace hS := hS.step hE; clear hE
  refine sv (yNot rfl) ?_
  refine nil ?_
  show Code.wp _ _ _ _ _
  refine cond rfl (fun c17 => ?_) (fun c17 => ?_)
  ·
    refine seq ?_
    refine region ?_
    refine sv (yAsg rfl) ?_
    refine nil ?_
    show Code.wp _ _ _ _ _
    refine wp_ret (thenR ?_)
    exact retV (res1 rfl (eqI (errR_form c17))) hS.ext
  ·
    refine skip ?_
    show Code.wp _ _ _ _ _
    refine seq ?_
    refine seq ?_
    refine region ?_
    refine sv (yAsg rfl) ?_
    refine nil ?_
    show Code.wp _ _ _ _ _
    refine block ?_
    refine loop (fun f w zz => ∃ (k : Nat), f 1 = .int .i64 (i : Int) ∧ f 2 = .pointer (some ⟨b2, 0, none⟩) ∧ f 5 = .pointer (some ⟨b5, 0, none⟩) ∧ f 6 = .int .i64 (k : Int) ∧ StX [] w0 w [blk b5 [.string x.name, .int .i64 x.grade, .int .i64 x.second, .int .i64 x.within, .slice axk x.keys.length cxk, .bool x.split] 79, blk b2 [.slice a c.ops.length cap, .slice ak c.keys.length ck, .slice an c.kinds.length cn] 26] ∧ (k ≤ i) ∧ (∀ q, q < k → ∀ u : Knd, c.kinds[q]? = some u → u.name ≠ x.name) ∧ zz = i - k) _ ⟨_, rfl, 0, rfl, rfl, rfl, rfl, hS, (Nat.zero_le _), (fun q hq => absurd hq (Nat.not_lt_zero q)), rfl⟩ ?_
    clear hS
    rintro f w _ ⟨k, h1, h2, h5, h6, hS, hk, hN, rfl⟩
    refine seq ?_
    refine seq ?_
    refine region ?_
    refine sv (yMove h6) ?_
    refine sv (yMove h1) ?_
    refine sv (yLss rfl rfl) ?_
    refine nil ?_
    show Code.wp _ _ _ _ _
    refine cond rfl (fun c20 => ?_) (fun c20 => ?_)
    ·
      simp only [Bool.and_eq_true, Bool.or_eq_true, Bool.and_eq_false_iff, Bool.or_eq_false_iff, decide_eq_true_eq, decide_eq_false_iff_not, Bool.not_eq_true, Bool.not_eq_false, Bool.not_not, Bool.not_eq_eq_eq_not, Bool.not_true, Bool.not_false, Bool.false_eq_true, Bool.true_eq_false, ne_eq, Decidable.not_not, not_false_eq_true, not_true_eq_false] at c20
      refine skip ?_
      show Code.wp _ _ _ _ _
      refine seq ?_
      refine block ?_
      refine seq ?_
      refine region_draw mixed (by kernel_rfl) hS ?_
      obtain ⟨u, hxu, hdu⟩ := drop_of (l := c.kinds) (k := k) (by omega)
      obtain ⟨bu, ou, csu, hau, hlenu, hcsu, hRu⟩ := heln (k) (by omega)
      obtain rfl : u = c.kinds[k] := (List.getElem?_eq_some_iff.1 hxu).2.symm
      generalize c.kinds[k] = u at hxu hdu hRu
      obtain ⟨uv, rfl, -⟩ := hRu
      refine qv (fun w hS => (fa26_2 h2)) ?_
      refine qv (fun w hS => (yLdB rfl Try.isAgg24 (hS.at _) rfl)) ?_
      refine qv (fun w hS => (yMove h6)) ?_
      refine qv (fun w hS => (yIxa rfl hau rfl Try.runUnderlying24 Try.sizeOf79 (by omega) (by omega))) ?_
      refine qv (fun w hS => (fa79_0 rfl)) ?_
      refine qv (fun w hS => (yLd rfl Try.isAgg9 ((hcsu.ext hS.ext).at (j := 0) rfl))) ?_
      refine qv (fun w hS => (fa79_0 h5)) ?_
      refine qv (fun w hS => (yLdB rfl Try.isAgg9 (hS.at _) rfl)) ?_
      refine qv (fun w hS => (ySEq rfl rfl)) ?_
      clear hS; refine qnil (fun w hS => ?_)
      show Code.wp _ _ _ _ _
      refine cond rfl (fun c31 => ?_) (fun c31 => ?_)
      ·
        simp only [Bool.and_eq_true, Bool.or_eq_true, Bool.and_eq_false_iff, Bool.or_eq_false_iff, decide_eq_true_eq, decide_eq_false_iff_not, Bool.not_eq_true, Bool.not_eq_false, Bool.not_not, Bool.not_eq_eq_eq_not, Bool.not_true, Bool.not_false, Bool.false_eq_true, Bool.true_eq_false, ne_eq, Decidable.not_not, not_false_eq_true, not_true_eq_false] at c31
        refine seq ?_
        refine region ?_
        refine sv (yAsg rfl) ?_
        refine nil ?_
        show Code.wp _ _ _ _ _
        refine wp_ret (blockR (thenR (thenR (blockR (thenR ?_)))))
        exact retV (res1 rfl (eqI (errR_twice c17 hxu (by omega) c31))) hS.ext
      ·
        simp only [Bool.and_eq_true, Bool.or_eq_true, Bool.and_eq_false_iff, Bool.or_eq_false_iff, decide_eq_true_eq, decide_eq_false_iff_not, Bool.not_eq_true, Bool.not_eq_false, Bool.not_not, Bool.not_eq_eq_eq_not, Bool.not_true, Bool.not_false, Bool.false_eq_true, Bool.true_eq_false, ne_eq, Decidable.not_not, not_false_eq_true, not_true_eq_false] at c31
        refine skip ?_
        show Code.wp _ _ _ _ _
        refine region ?_
        refine sv (yMove h6) ?_
        refine sv (yAdd rfl rfl ⟨by omega, by omega⟩) ?_
        refine sv (yAsg rfl) ?_
        refine nil ?_
        exact ⟨_, _, rfl, ⟨k + 1, h1, h2, h5, rfl, hS, (by omega), (snoc hN (fun v hv => by cases Option.some.inj (hxu.symm.trans hv); exact c31)), rfl⟩, by omega⟩
    ·
      simp only [Bool.and_eq_true, Bool.or_eq_true, Bool.and_eq_false_iff, Bool.or_eq_false_iff, decide_eq_true_eq, decide_eq_false_iff_not, Bool.not_eq_true, Bool.not_eq_false, Bool.not_not, Bool.not_eq_eq_eq_not, Bool.not_true, Bool.not_false, Bool.false_eq_true, Bool.true_eq_false, ne_eq, Decidable.not_not, not_false_eq_true, not_true_eq_false] at c20
      have hne : errR (·.name) (kndE c.keys.length) c.kinds i x = kndE c.keys.length x := errR_rest c17 (fun q hq => hN q (by omega))
      refine exit ?_
      show Code.wp _ _ _ _ _
      refine seq ?_
      refine seq ?_
      refine region ?_
      refine sv (fa79_1 h5) ?_
      refine sv (yLdB rfl Try.isAgg3 (hS.at _) rfl) ?_
      refine scall Try.call54 (.cons rfl (.cons rfl (.cons rfl .nil))) c_in ?_
      rintro _ w ⟨rfl, hE⟩; replace hS := hS.step hE; clear hE
      refine sv (yNot rfl) ?_
      refine sv (yMove rfl) ?_
      refine sg rfl rfl rfl (fun g => (fa79_2 h5)) (fun v37 g37 => ?_)
      refine sg rfl rfl rfl (fun g => (yLdB (g37.1 g) Try.isAgg3 (hS.at _) rfl)) (fun v38 g38 => ?_)
      refine sgc hS rfl rfl rfl Try.call54 (fun g => (.cons (g38.1 g) (.cons rfl (.cons rfl .nil)))) (fun g => c_in) ?_; clear hS; intro v39 w hS g39
      refine sg rfl rfl rfl (fun g => (yNot (g39.1 g))) (fun v40 g40 => ?_)
      refine sv (yOr rfl rfl (fun hB => (g40.1 hB))) ?_
      refine sv (yMove rfl) ?_
      refine sg rfl rfl rfl (fun g => (fa79_3 h5)) (fun v43 g43 => ?_)
      refine sg rfl rfl rfl (fun g => (yLdB (g43.1 g) Try.isAgg3 (hS.at _) rfl)) (fun v44 g44 => ?_)
      refine sgc hS rfl rfl rfl Try.call54 (fun g => (.cons (g44.1 g) (.cons rfl (.cons rfl .nil)))) (fun g => c_in) ?_; clear hS; intro v45 w hS g45
      refine sg rfl rfl rfl (fun g => (yNot (g45.1 g))) (fun v46 g46 => ?_)
      refine sv (yOr rfl rfl (fun hB => (g46.1 hB))) ?_
      refine sv (yMove rfl) ?_
      refine sg rfl rfl rfl (fun g => (fa79_2 h5)) (fun v49 g49 => ?_)
      refine sg rfl rfl rfl (fun g => (yLdB (g49.1 g) Try.isAgg3 (hS.at _) rfl)) (fun v50 g50 => ?_)
      refine sg rfl rfl rfl (fun g => (yEql (g50.1 g) rfl)) (fun v51 g51 => ?_)
      refine sg rfl rfl rfl (fun g => (yMove (g51.1 g))) (fun v52 g52 => ?_)
      refine sgg rfl rfl g52 (fun g => (fa79_3 h5)) (fun v53 g53 => ?_)
      refine sgg rfl rfl g52 (fun g => (yLdB (g53.1 g) Try.isAgg3 (hS.at _) rfl)) (fun v54 g54 => ?_)
      refine sgg rfl rfl g52 (fun g => (yNeq (g54.1 g) rfl)) (fun v55 g55 => ?_)
      refine sg rfl rfl rfl (fun g => (yAnd (g52.1 g) (fun hB => (g55.1 ⟨g, hB⟩)) rfl)) (fun v56 g56 => ?_)
      refine sv (yOr rfl rfl (fun hB => (g56.1 hB))) ?_
      refine nil ?_
      show Code.wp _ _ _ _ _
      refine cond rfl (fun c57 => ?_) (fun c57 => ?_)
      ·
        have hkr : kndR x = true := (kndR_in x).symm.trans c57
        refine seq ?_
        refine region ?_
        refine sv (yAsg rfl) ?_
        refine nil ?_
        show Code.wp _ _ _ _ _
        refine wp_ret (thenR ?_)
        exact retV (res1 rfl (eqI (hne.trans (kndE_1 hkr)))) hS.ext
      ·
        have hkr : kndR x = false := (kndR_in x).symm.trans c57
        refine skip ?_
        show Code.wp _ _ _ _ _
        refine seq ?_
        refine seq ?_
        refine region ?_
        refine sv (yAsg rfl) ?_
        refine nil ?_
        show Code.wp _ _ _ _ _
        refine block ?_
        refine loop (fun f w zz => ∃ (j : Nat), f 2 = .pointer (some ⟨b2, 0, none⟩) ∧ f 5 = .pointer (some ⟨b5, 0, none⟩) ∧ f 7 = .int .i64 (j : Int) ∧ StX [] w0 w [blk b5 [.string x.name, .int .i64 x.grade, .int .i64 x.second, .int .i64 x.within, .slice axk x.keys.length cxk, .bool x.split] 79, blk b2 [.slice a c.ops.length cap, .slice ak c.keys.length ck, .slice an c.kinds.length cn] 26] ∧ (j ≤ x.keys.length) ∧ (∀ q, q < j → ∀ y, x.keys[q]? = some y → outB y 0 ((c.keys.length : Int) - 1) = false) ∧ zz = x.keys.length - j) _ ⟨_, rfl, 0, h2, h5, rfl, hS, (Nat.zero_le _), (fun q hq => absurd hq (Nat.not_lt_zero q)), rfl⟩ ?_
        clear hS
        rintro f w _ ⟨j, h2, h5, h7, hS, hj, hM, rfl⟩
        refine seq ?_
        refine seq ?_
        refine region ?_
        refine sv (yMove h7) ?_
        refine sv (fa79_4 h5) ?_
        refine sv (yLdB rfl Try.isAgg30 (hS.at _) rfl) ?_
        refine sv (yLen rfl Try.underlying30) ?_
        refine sv (yLss rfl rfl) ?_
        refine nil ?_
        show Code.wp _ _ _ _ _
        refine cond rfl (fun c62 => ?_) (fun c62 => ?_)
        ·
          simp only [Bool.and_eq_true, Bool.or_eq_true, Bool.and_eq_false_iff, Bool.or_eq_false_iff, decide_eq_true_eq, decide_eq_false_iff_not, Bool.not_eq_true, Bool.not_eq_false, Bool.not_not, Bool.not_eq_eq_eq_not, Bool.not_true, Bool.not_false, Bool.false_eq_true, Bool.true_eq_false, ne_eq, Decidable.not_not, not_false_eq_true, not_true_eq_false] at c62
          refine skip ?_
          show Code.wp _ _ _ _ _
          refine seq ?_
          refine block ?_
          refine seq ?_
          refine region_draw mixed (by kernel_rfl) hS ?_
          obtain ⟨s, hxs, hds⟩ := drop_of (l := x.keys) (k := j) (by omega)
          obtain ⟨bs, os, css, has, hlens, hcss, hRs⟩ := helx (j) (by omega)
          obtain rfl : s = x.keys[j] := (List.getElem?_eq_some_iff.1 hxs).2.symm
          generalize x.keys[j] = s at hxs hds hRs
          obtain ⟨rfl, hsi⟩ := hRs
          refine qv (fun w hS => (fa79_4 h5)) ?_
          refine qv (fun w hS => (yLdB rfl Try.isAgg30 (hS.at _) rfl)) ?_
          refine qv (fun w hS => (yMove h7)) ?_
          refine qv (fun w hS => (yIxa rfl has rfl Try.runUnderlying30 Try.sizeOf3 (by omega) (by omega))) ?_
          refine qv (fun w hS => (yLd rfl Try.isAgg3 ((hcss.ext hS.ext).one))) ?_
          refine qv (fun w hS => (fa26_1 h2)) ?_
          refine qv (fun w hS => (yLdB rfl Try.isAgg23 (hS.at _) rfl)) ?_
          refine qv (fun w hS => (yLen rfl Try.underlying23)) ?_
          refine qv (fun w hS => (ySub rfl rfl ⟨by omega, by omega⟩)) ?_
          refine qcall Try.call54 (.cons rfl (.cons rfl (.cons rfl .nil))) (fun w hS => c_in) ?_
          refine qv (fun w hS => (yNot rfl)) ?_
          clear hS; refine qnil (fun w hS => ?_)
          show Code.wp _ _ _ _ _
          refine cond rfl (fun c75 => ?_) (fun c75 => ?_)
          ·
            refine seq ?_
            refine region ?_
            refine sv (yAsg rfl) ?_
            refine nil ?_
            show Code.wp _ _ _ _ _
            refine wp_ret (blockR (thenR (thenR (blockR (thenR ?_)))))
            exact retV (res1 rfl (eqI (hne.trans (kndE_2 hkr (List.mem_of_getElem? hxs) (by rw [← inB_not]; exact c75))))) hS.ext
          ·
            refine skip ?_
            show Code.wp _ _ _ _ _
            refine region ?_
            refine sv (yMove h7) ?_
            refine sv (yAdd rfl rfl ⟨by omega, by omega⟩) ?_
            refine sv (yAsg rfl) ?_
            refine nil ?_
            exact ⟨_, _, rfl, ⟨j + 1, h2, h5, rfl, hS, (by omega), (snoc hM (fun v hv => by cases Option.some.inj (hxs.symm.trans hv); rw [← inB_not]; exact c75)), rfl⟩, by omega⟩
        ·
          simp only [Bool.and_eq_true, Bool.or_eq_true, Bool.and_eq_false_iff, Bool.or_eq_false_iff, decide_eq_true_eq, decide_eq_false_iff_not, Bool.not_eq_true, Bool.not_eq_false, Bool.not_not, Bool.not_eq_eq_eq_not, Bool.not_true, Bool.not_false, Bool.false_eq_true, Bool.true_eq_false, ne_eq, Decidable.not_not, not_false_eq_true, not_true_eq_false] at c62
          have hany := key_any (nk := c.keys.length) (k := x) (fun q hq => hM q (by omega))
          refine exit ?_
          show Code.wp _ _ _ _ _
          refine seq ?_
          refine seq ?_
          refine region ?_
          refine sv (yAsg rfl) ?_
          refine nil ?_
          show Code.wp _ _ _ _ _
          refine block ?_
          refine loop (fun f w zz => ∃ (j : Nat), f 5 = .pointer (some ⟨b5, 0, none⟩) ∧ f 8 = .int .i64 (j : Int) ∧ StX [] w0 w [blk b5 [.string x.name, .int .i64 x.grade, .int .i64 x.second, .int .i64 x.within, .slice axk x.keys.length cxk, .bool x.split] 79, blk b2 [.slice a c.ops.length cap, .slice ak c.keys.length ck, .slice an c.kinds.length cn] 26] ∧ (j ≤ x.keys.length) ∧ (∀ q, q < j → ∀ y, x.keys[q]? = some y → y ∉ x.keys.take q) ∧ zz = x.keys.length - j) _ ⟨_, rfl, 0, h5, rfl, hS, (Nat.zero_le _), (fun q hq => absurd hq (Nat.not_lt_zero q)), rfl⟩ ?_
          clear hS
          rintro f w _ ⟨j, h5, h8, hS, hj, hD, rfl⟩
          refine seq ?_
          refine seq ?_
          refine region ?_
          refine sv (yMove h8) ?_
          refine sv (fa79_4 h5) ?_
          refine sv (yLdB rfl Try.isAgg30 (hS.at _) rfl) ?_
          refine sv (yLen rfl Try.underlying30) ?_
          refine sv (yLss rfl rfl) ?_
          refine nil ?_
          show Code.wp _ _ _ _ _
          refine cond rfl (fun c80 => ?_) (fun c80 => ?_)
          ·
            simp only [Bool.and_eq_true, Bool.or_eq_true, Bool.and_eq_false_iff, Bool.or_eq_false_iff, decide_eq_true_eq, decide_eq_false_iff_not, Bool.not_eq_true, Bool.not_eq_false, Bool.not_not, Bool.not_eq_eq_eq_not, Bool.not_true, Bool.not_false, Bool.false_eq_true, Bool.true_eq_false, ne_eq, Decidable.not_not, not_false_eq_true, not_true_eq_false] at c80
            refine skip ?_
            show Code.wp _ _ _ _ _
            refine seq ?_
            refine block ?_
            refine seq ?_
            refine region_draw mixed (by kernel_rfl) hS ?_
            obtain ⟨s, hxs, hds⟩ := drop_of (l := x.keys) (k := j) (by omega)
            obtain ⟨bs, os, css, has, hlens, hcss, hRs⟩ := helx (j) (by omega)
            obtain rfl : s = x.keys[j] := (List.getElem?_eq_some_iff.1 hxs).2.symm
            generalize x.keys[j] = s at hxs hds hRs
            obtain ⟨rfl, hsi⟩ := hRs
            refine qv (fun w hS => (fa79_4 h5)) ?_
            refine qv (fun w hS => (yLdB rfl Try.isAgg30 (hS.at _) rfl)) ?_
            refine qv (fun w hS => (yMove h8)) ?_
            refine qv (fun w hS => (yTo rfl rfl Try.underlying30 Try.sizeOf3 (by omega))) ?_
            refine qv (fun w hS => (fa79_4 h5)) ?_
            refine qv (fun w hS => (yLdB rfl Try.isAgg30 (hS.at _) rfl)) ?_
            refine qv (fun w hS => (yMove h8)) ?_
            refine qv (fun w hS => (yIxa rfl has rfl Try.runUnderlying30 Try.sizeOf3 (by omega) (by omega))) ?_
            refine qv (fun w hS => (yLd rfl Try.isAgg3 ((hcss.ext hS.ext).one))) ?_
            refine qcall Try.call92 (.cons rfl (.cons rfl .nil)) (fun w hS => (c_has ((hsx.ext RInt.stays hS.ext).take (i := j) (by omega)))) ?_
            clear hS; refine qnil (fun w hS => ?_)
            show Code.wp _ _ _ _ _
            refine cond rfl (fun c92 => ?_) (fun c92 => ?_)
            ·
              refine seq ?_
              refine region ?_
              refine sv (yAsg rfl) ?_
              refine nil ?_
              show Code.wp _ _ _ _ _
              refine wp_ret (blockR (thenR (thenR (blockR (thenR ?_)))))
              exact retV (res1 rfl (eqI (hne.trans (kndE_3 hkr hany (nodup_not hxs (any_mem.1 c92)))))) hS.ext
            ·
              refine skip ?_
              show Code.wp _ _ _ _ _
              refine region ?_
              refine sv (yMove h8) ?_
              refine sv (yAdd rfl rfl ⟨by omega, by omega⟩) ?_
              refine sv (yAsg rfl) ?_
              refine nil ?_
              exact ⟨_, _, rfl, ⟨j + 1, h5, rfl, hS, (by omega), (snoc hD (fun v hv => by cases Option.some.inj (hxs.symm.trans hv); intro hm; rw [any_mem.2 hm] at c92; cases c92)), rfl⟩, by omega⟩
          ·
            simp only [Bool.and_eq_true, Bool.or_eq_true, Bool.and_eq_false_iff, Bool.or_eq_false_iff, decide_eq_true_eq, decide_eq_false_iff_not, Bool.not_eq_true, Bool.not_eq_false, Bool.not_not, Bool.not_eq_eq_eq_not, Bool.not_true, Bool.not_false, Bool.false_eq_true, Bool.true_eq_false, ne_eq, Decidable.not_not, not_false_eq_true, not_true_eq_false] at c80
            have hnd : x.keys.Nodup := nodup_yes (fun q hq => hD q (by omega))
            refine exit ?_
            show Code.wp _ _ _ _ _
            refine seq ?_
            refine seq ?_
            refine region ?_
            refine sv (fa79_5 h5) ?_
            refine sv (yLdB rfl Try.isAgg4 (hS.at _) rfl) ?_
            refine sv (yMove rfl) ?_
            refine sg rfl rfl rfl (fun g => (fa79_2 h5)) (fun v96 g96 => ?_)
            refine sg rfl rfl rfl (fun g => (yLdB (g96.1 g) Try.isAgg3 (hS.at _) rfl)) (fun v97 g97 => ?_)
            refine sg rfl rfl rfl (fun g => (yEql (g97.1 g) rfl)) (fun v98 g98 => ?_)
            refine sg rfl rfl rfl (fun g => (yMove (g98.1 g))) (fun v99 g99 => ?_)
            refine sgg rfl rfl g99 (fun g => (fa79_4 h5)) (fun v100 g100 => ?_)
            refine sgg rfl rfl g99 (fun g => (yLdB (g100.1 g) Try.isAgg30 (hS.at _) rfl)) (fun v101 g101 => ?_)
            refine sgg rfl rfl g99 (fun g => (yLen (g101.1 g) Try.underlying30)) (fun v102 g102 => ?_)
            refine sgg rfl rfl g99 (fun g => (yLss (g102.1 g) rfl)) (fun v103 g103 => ?_)
            refine sg rfl rfl rfl (fun g => (yOr (g99.1 g) rfl (fun hB => (g103.1 ⟨g, hB⟩)))) (fun v104 g104 => ?_)
            refine sv (yAnd rfl (fun hB => (g104.1 hB)) rfl) ?_
            refine nil ?_
            show Code.wp _ _ _ _ _
            refine cond rfl (fun c105 => ?_) (fun c105 => ?_)
            ·
              have hks : kndS x = true := c105
              refine seq ?_
              refine region ?_
              refine sv (yAsg rfl) ?_
              refine nil ?_
              show Code.wp _ _ _ _ _
              refine wp_ret (thenR ?_)
              exact retV (res1 rfl (eqI (hne.trans (kndE_4 hkr hany hnd hks)))) hS.ext
            ·
              have hks : kndS x = false := c105
              refine skip ?_
              show Code.wp _ _ _ _ _
              refine seq ?_
              refine region ?_
              refine sv (yAsg rfl) ?_
              refine nil ?_
              show Code.wp _ _ _ _ _
              refine wp_ret ?_
              exact retV (res1 rfl (eqI (hne.trans (kndE_0 hkr hany hnd hks)))) hS.ext
set_option maxHeartbeats 2000000 in
/-- barrage/barrageref10.Check -/
theorem c_rCheck {c : Crew} {cs : List Value} {w0 : World} (h : RCrew w0 cs c) : CV Try.prog 32 #[.agg cs.toArray] w0 (.tuple #[.int .i64 (checkC c).1, .int .i64 (checkC c).2.1, .int .i64 (checkC c).2.2]) := by
  obtain ⟨ov, kv, nv, rfl, hso, hsk, hsn, hrm⟩ := id h
  obtain ⟨a, cap, rfl, hcap, hmx, hel⟩ := id hso
  obtain ⟨ak, ck, rfl, hckap, hkmx, helk⟩ := id hsk
  obtain ⟨an, cn, rfl, hncap, hnmx, heln⟩ := id hsn
  refine enter Try.func32 rfl Try.ntmps32 rfl ?_
  have hS := St.start w0
  refine seq ?_
  refine region ?_
  refine sbox hS rfl rfl ?_; clear hS; intro b1 w hS
  refine sv (yAsg rfl) ?_
  refine sv (yAsg rfl) ?_
  refine sv (yAsg rfl) ?_
  refine nil ?_
  show Code.wp _ _ _ _ _
  refine seq ?_
  refine seq ?_
  refine region ?_
  refine sv (fa26_0 rfl) ?_
  refine sv (yLdB rfl Try.isAgg22 (hS.at _) rfl) ?_
  refine sv (yLen rfl Try.underlying22) ?_
  refine scall Try.call54 (.cons rfl (.cons rfl (.cons rfl .nil))) c_in ?_
  rintro _ w ⟨rfl, hE⟩; replace hS := hS.step hE; clear hE
  refine sv (yNot rfl) ?_
  refine sv (yMove rfl) ?_
  refine sg rfl rfl rfl (fun g => (fa26_1 rfl)) (fun v17 g17 => ?_)
  refine sg rfl rfl rfl (fun g => (yLdB (g17.1 g) Try.isAgg23 (hS.at _) rfl)) (fun v18 g18 => ?_)
  refine sg rfl rfl rfl (fun g => (yLen (g18.1 g) Try.underlying23)) (fun v19 g19 => ?_)
  refine sg rfl rfl rfl (fun g => (yGtr (g19.1 g) rfl)) (fun v20 g20 => ?_)
  refine sv (yOr rfl rfl (fun hB => (g20.1 hB))) ?_
  refine sv (yMove rfl) ?_
  refine sg rfl rfl rfl (fun g => (fa26_2 rfl)) (fun v23 g23 => ?_)
  refine sg rfl rfl rfl (fun g => (yLdB (g23.1 g) Try.isAgg24 (hS.at _) rfl)) (fun v24 g24 => ?_)
  refine sg rfl rfl rfl (fun g => (yLen (g24.1 g) Try.underlying24)) (fun v25 g25 => ?_)
  refine sgc hS rfl rfl rfl Try.call54 (fun g => (.cons (g25.1 g) (.cons rfl (.cons rfl .nil)))) (fun g => c_in) ?_; clear hS; intro v26 w hS g26
  refine sg rfl rfl rfl (fun g => (yNot (g26.1 g))) (fun v27 g27 => ?_)
  refine sv (yOr rfl rfl (fun hB => (g27.1 hB))) ?_
  refine nil ?_
  show Code.wp _ _ _ _ _
  refine cond rfl (fun c28 => ?_) (fun c28 => ?_)
  ·
    have hfin := checkC_1 ((sizeBad_in c).symm.trans c28)
    refine seq ?_
    refine region ?_
    refine sv (yAsg rfl) ?_
    refine sv (yAsg rfl) ?_
    refine sv (yAsg rfl) ?_
    refine nil ?_
    show Code.wp _ _ _ _ _
    refine wp_ret (thenR ?_)
    exact retV (res3 rfl (eqI (by rw [hfin])) (eqI (by rw [hfin])) (eqI (by rw [hfin]))) hS.ext
  ·
    have hsz : sizeBad c = false := (sizeBad_in c).symm.trans c28
    refine skip ?_
    show Code.wp _ _ _ _ _
    refine seq ?_
    refine seq ?_
    refine region ?_
    refine sv (yAsg rfl) ?_
    refine nil ?_
    show Code.wp _ _ _ _ _
    refine block ?_
    refine loop (fun f w zz => ∃ (k : Nat), f 1 = .pointer (some ⟨b1, 0, none⟩) ∧ f 5 = .int .i64 (k : Int) ∧ StX [] w0 w [blk b1 [.slice a c.ops.length cap, .slice ak c.keys.length ck, .slice an c.kinds.length cn] 26] ∧ (k ≤ c.ops.length) ∧ (namedR (·.name) oprE c.ops [] 0 = namedR (·.name) oprE (c.ops.drop k) ((c.ops.take k).map (·.name)) k) ∧ zz = c.ops.length - k) _ ⟨_, rfl, 0, rfl, rfl, hS, (Nat.zero_le _), (rfl), rfl⟩ ?_
    clear hS
    rintro f w _ ⟨k, h1, h5, hS, hk, hI, rfl⟩
    refine seq ?_
    refine seq ?_
    refine region ?_
    refine sv (yMove h5) ?_
    refine sv (fa26_0 h1) ?_
    refine sv (yLdB rfl Try.isAgg22 (hS.at _) rfl) ?_
    refine sv (yLen rfl Try.underlying22) ?_
    refine sv (yLss rfl rfl) ?_
    refine nil ?_
    show Code.wp _ _ _ _ _
    refine cond rfl (fun c33 => ?_) (fun c33 => ?_)
    ·
      simp only [Bool.and_eq_true, Bool.or_eq_true, Bool.and_eq_false_iff, Bool.or_eq_false_iff, decide_eq_true_eq, decide_eq_false_iff_not, Bool.not_eq_true, Bool.not_eq_false, Bool.not_not, Bool.not_eq_eq_eq_not, Bool.not_true, Bool.not_false, Bool.false_eq_true, Bool.true_eq_false, ne_eq, Decidable.not_not, not_false_eq_true, not_true_eq_false] at c33
      refine skip ?_
      show Code.wp _ _ _ _ _
      refine seq ?_
      refine block ?_
      refine seq ?_
      refine region ?_
      obtain ⟨x, hx, hd⟩ := drop_of (l := c.ops) (k := k) (by omega)
      refine sv (yLdBA h1 Try.isAgg26 Try.sizeOf26 (hS.at _) rfl rfl) ?_
      refine sv (yMove h5) ?_
      refine scall Try.call67 (.cons rfl (.cons rfl .nil)) (c_roper (h.ext hS.ext) hx) ?_
      rintro _ w ⟨rfl, hE⟩; replace hS := hS.step hE; clear hE
      refine sv (yAsg rfl) ?_
      refine nil ?_
      show Code.wp _ _ _ _ _
      refine seq ?_
      refine region ?_
      refine sv (yMove rfl) ?_
      refine sv (yNeq rfl rfl) ?_
      refine nil ?_
      show Code.wp _ _ _ _ _
      refine cond rfl (fun c40 => ?_) (fun c40 => ?_)
      ·
        simp only [Bool.and_eq_true, Bool.or_eq_true, Bool.and_eq_false_iff, Bool.or_eq_false_iff, decide_eq_true_eq, decide_eq_false_iff_not, Bool.not_eq_true, Bool.not_eq_false, Bool.not_not, Bool.not_eq_eq_eq_not, Bool.not_true, Bool.not_false, Bool.false_eq_true, Bool.true_eq_false, ne_eq, Decidable.not_not, not_false_eq_true, not_true_eq_false] at c40
        refine seq ?_
        refine region ?_
        refine sv (yMove h5) ?_
        refine sv (yMove rfl) ?_
        refine sv (yAsg rfl) ?_
        refine sv (yAsg rfl) ?_
        refine sv (yAsg rfl) ?_
        refine nil ?_
        show Code.wp _ _ _ _ _
        have hfin := checkC_2 hsz (hI.trans (namedR_hit hd c40)) c40
        refine wp_ret (blockR (thenR (thenR (blockR (thenR ?_)))))
        exact retV (res3 rfl (eqI (by rw [hfin])) (eqI (by rw [hfin])) (eqI (by rw [hfin]))) hS.ext
      ·
        simp only [Bool.and_eq_true, Bool.or_eq_true, Bool.and_eq_false_iff, Bool.or_eq_false_iff, decide_eq_true_eq, decide_eq_false_iff_not, Bool.not_eq_true, Bool.not_eq_false, Bool.not_not, Bool.not_eq_eq_eq_not, Bool.not_true, Bool.not_false, Bool.false_eq_true, Bool.true_eq_false, ne_eq, Decidable.not_not, not_false_eq_true, not_true_eq_false] at c40
        refine skip ?_
        show Code.wp _ _ _ _ _
        refine region ?_
        refine sv (yMove h5) ?_
        refine sv (yAdd rfl rfl ⟨by omega, by omega⟩) ?_
        refine sv (yAsg rfl) ?_
        refine nil ?_
        exact ⟨_, _, rfl, ⟨k + 1, h1, rfl, hS, (by omega), (by rw [hI]; exact namedR_step hx hd c40), rfl⟩, by omega⟩
    ·
      simp only [Bool.and_eq_true, Bool.or_eq_true, Bool.and_eq_false_iff, Bool.or_eq_false_iff, decide_eq_true_eq, decide_eq_false_iff_not, Bool.not_eq_true, Bool.not_eq_false, Bool.not_not, Bool.not_eq_eq_eq_not, Bool.not_true, Bool.not_false, Bool.false_eq_true, Bool.true_eq_false, ne_eq, Decidable.not_not, not_false_eq_true, not_true_eq_false] at c33
      have ho0 : (namedR (·.name) oprE c.ops [] 0).2 = 0 := by rw [hI, namedR_end (by omega)]
      refine exit ?_
      show Code.wp _ _ _ _ _
      refine seq ?_
      refine seq ?_
      refine region ?_
      refine sv (yAsg rfl) ?_
      refine nil ?_
      show Code.wp _ _ _ _ _
      refine block ?_
      refine loop (fun f w zz => ∃ (k : Nat), f 1 = .pointer (some ⟨b1, 0, none⟩) ∧ f 7 = .int .i64 (k : Int) ∧ StX [] w0 w [blk b1 [.slice a c.ops.length cap, .slice ak c.keys.length ck, .slice an c.kinds.length cn] 26] ∧ (k ≤ c.keys.length) ∧ (namedR id (fun _ => 0) c.keys [] 0 = namedR id (fun _ => 0) (c.keys.drop k) ((c.keys.take k).map id) k) ∧ zz = c.keys.length - k) _ ⟨_, rfl, 0, h1, rfl, hS, (Nat.zero_le _), (rfl), rfl⟩ ?_
      clear hS
      rintro f w _ ⟨k, h1, h7, hS, hk, hI, rfl⟩
      refine seq ?_
      refine seq ?_
      refine region ?_
      refine sv (yMove h7) ?_
      refine sv (fa26_1 h1) ?_
      refine sv (yLdB rfl Try.isAgg23 (hS.at _) rfl) ?_
      refine sv (yLen rfl Try.underlying23) ?_
      refine sv (yLss rfl rfl) ?_
      refine nil ?_
      show Code.wp _ _ _ _ _
      refine cond rfl (fun c47 => ?_) (fun c47 => ?_)
      ·
        simp only [Bool.and_eq_true, Bool.or_eq_true, Bool.and_eq_false_iff, Bool.or_eq_false_iff, decide_eq_true_eq, decide_eq_false_iff_not, Bool.not_eq_true, Bool.not_eq_false, Bool.not_not, Bool.not_eq_eq_eq_not, Bool.not_true, Bool.not_false, Bool.false_eq_true, Bool.true_eq_false, ne_eq, Decidable.not_not, not_false_eq_true, not_true_eq_false] at c47
        refine skip ?_
        show Code.wp _ _ _ _ _
        refine seq ?_
        refine block ?_
        refine seq ?_
        refine region ?_
        obtain ⟨x, hx, hd⟩ := drop_of (l := c.keys) (k := k) (by omega)
        refine sv (yLdBA h1 Try.isAgg26 Try.sizeOf26 (hS.at _) rfl rfl) ?_
        refine sv (yMove h7) ?_
        refine scall Try.call68 (.cons rfl (.cons rfl .nil)) (c_rkey (h.ext hS.ext) hx) ?_
        rintro _ w ⟨rfl, hE⟩; replace hS := hS.step hE; clear hE
        refine sv (yAsg rfl) ?_
        refine nil ?_
        show Code.wp _ _ _ _ _
        refine seq ?_
        refine region ?_
        refine sv (yMove rfl) ?_
        refine sv (yNeq rfl rfl) ?_
        refine nil ?_
        show Code.wp _ _ _ _ _
        refine cond rfl (fun c54 => ?_) (fun c54 => ?_)
        ·
          simp only [Bool.and_eq_true, Bool.or_eq_true, Bool.and_eq_false_iff, Bool.or_eq_false_iff, decide_eq_true_eq, decide_eq_false_iff_not, Bool.not_eq_true, Bool.not_eq_false, Bool.not_not, Bool.not_eq_eq_eq_not, Bool.not_true, Bool.not_false, Bool.false_eq_true, Bool.true_eq_false, ne_eq, Decidable.not_not, not_false_eq_true, not_true_eq_false] at c54
          refine seq ?_
          refine region ?_
          refine sv (yMove h7) ?_
          refine sv (yMove rfl) ?_
          refine sv (yAsg rfl) ?_
          refine sv (yAsg rfl) ?_
          refine sv (yAsg rfl) ?_
          refine nil ?_
          show Code.wp _ _ _ _ _
          have hfin := checkC_3 hsz ho0 (hI.trans (namedR_hit hd c54)) c54
          refine wp_ret (blockR (thenR (thenR (blockR (thenR ?_)))))
          exact retV (res3 rfl (eqI (by rw [hfin])) (eqI (by rw [hfin])) (eqI (by rw [hfin]))) hS.ext
        ·
          simp only [Bool.and_eq_true, Bool.or_eq_true, Bool.and_eq_false_iff, Bool.or_eq_false_iff, decide_eq_true_eq, decide_eq_false_iff_not, Bool.not_eq_true, Bool.not_eq_false, Bool.not_not, Bool.not_eq_eq_eq_not, Bool.not_true, Bool.not_false, Bool.false_eq_true, Bool.true_eq_false, ne_eq, Decidable.not_not, not_false_eq_true, not_true_eq_false] at c54
          refine skip ?_
          show Code.wp _ _ _ _ _
          refine region ?_
          refine sv (yMove h7) ?_
          refine sv (yAdd rfl rfl ⟨by omega, by omega⟩) ?_
          refine sv (yAsg rfl) ?_
          refine nil ?_
          exact ⟨_, _, rfl, ⟨k + 1, h1, rfl, hS, (by omega), (by rw [hI]; exact namedR_step hx hd c54), rfl⟩, by omega⟩
      ·
        simp only [Bool.and_eq_true, Bool.or_eq_true, Bool.and_eq_false_iff, Bool.or_eq_false_iff, decide_eq_true_eq, decide_eq_false_iff_not, Bool.not_eq_true, Bool.not_eq_false, Bool.not_not, Bool.not_eq_eq_eq_not, Bool.not_true, Bool.not_false, Bool.false_eq_true, Bool.true_eq_false, ne_eq, Decidable.not_not, not_false_eq_true, not_true_eq_false] at c47
        have hk0 : (namedR id (fun _ => 0) c.keys [] 0).2 = 0 := by rw [hI, namedR_end (by omega)]
        refine exit ?_
        show Code.wp _ _ _ _ _
        refine seq ?_
        refine seq ?_
        refine region ?_
        refine sv (yAsg rfl) ?_
        refine nil ?_
        show Code.wp _ _ _ _ _
        refine block ?_
        refine loop (fun f w zz => ∃ (k : Nat), f 1 = .pointer (some ⟨b1, 0, none⟩) ∧ f 9 = .int .i64 (k : Int) ∧ StX [] w0 w [blk b1 [.slice a c.ops.length cap, .slice ak c.keys.length ck, .slice an c.kinds.length cn] 26] ∧ (k ≤ c.kinds.length) ∧ (namedR (·.name) (kndE c.keys.length) c.kinds [] 0 = namedR (·.name) (kndE c.keys.length) (c.kinds.drop k) ((c.kinds.take k).map (·.name)) k) ∧ zz = c.kinds.length - k) _ ⟨_, rfl, 0, h1, rfl, hS, (Nat.zero_le _), (rfl), rfl⟩ ?_
        clear hS
        rintro f w _ ⟨k, h1, h9, hS, hk, hI, rfl⟩
        refine seq ?_
        refine seq ?_
        refine region ?_
        refine sv (yMove h9) ?_
        refine sv (fa26_2 h1) ?_
        refine sv (yLdB rfl Try.isAgg24 (hS.at _) rfl) ?_
        refine sv (yLen rfl Try.underlying24) ?_
        refine sv (yLss rfl rfl) ?_
        refine nil ?_
        show Code.wp _ _ _ _ _
        refine cond rfl (fun c61 => ?_) (fun c61 => ?_)
        ·
          simp only [Bool.and_eq_true, Bool.or_eq_true, Bool.and_eq_false_iff, Bool.or_eq_false_iff, decide_eq_true_eq, decide_eq_false_iff_not, Bool.not_eq_true, Bool.not_eq_false, Bool.not_not, Bool.not_eq_eq_eq_not, Bool.not_true, Bool.not_false, Bool.false_eq_true, Bool.true_eq_false, ne_eq, Decidable.not_not, not_false_eq_true, not_true_eq_false] at c61
          refine skip ?_
          show Code.wp _ _ _ _ _
          refine seq ?_
          refine block ?_
          refine seq ?_
          refine region ?_
          obtain ⟨x, hx, hd⟩ := drop_of (l := c.kinds) (k := k) (by omega)
          refine sv (yLdBA h1 Try.isAgg26 Try.sizeOf26 (hS.at _) rfl rfl) ?_
          refine sv (yMove h9) ?_
          refine scall Try.call69 (.cons rfl (.cons rfl .nil)) (c_rkind (h.ext hS.ext) hx) ?_
          rintro _ w ⟨rfl, hE⟩; replace hS := hS.step hE; clear hE
          refine sv (yAsg rfl) ?_
          refine nil ?_
          show Code.wp _ _ _ _ _
          refine seq ?_
          refine region ?_
          refine sv (yMove rfl) ?_
          refine sv (yNeq rfl rfl) ?_
          refine nil ?_
          show Code.wp _ _ _ _ _
          refine cond rfl (fun c68 => ?_) (fun c68 => ?_)
          ·
            simp only [Bool.and_eq_true, Bool.or_eq_true, Bool.and_eq_false_iff, Bool.or_eq_false_iff, decide_eq_true_eq, decide_eq_false_iff_not, Bool.not_eq_true, Bool.not_eq_false, Bool.not_not, Bool.not_eq_eq_eq_not, Bool.not_true, Bool.not_false, Bool.false_eq_true, Bool.true_eq_false, ne_eq, Decidable.not_not, not_false_eq_true, not_true_eq_false] at c68
            refine seq ?_
            refine region ?_
            refine sv (yMove h9) ?_
            refine sv (yMove rfl) ?_
            refine sv (yAsg rfl) ?_
            refine sv (yAsg rfl) ?_
            refine sv (yAsg rfl) ?_
            refine nil ?_
            show Code.wp _ _ _ _ _
            have hfin := checkC_4 hsz ho0 hk0 (hI.trans (namedR_hit hd c68)) c68
            refine wp_ret (blockR (thenR (thenR (blockR (thenR ?_)))))
            exact retV (res3 rfl (eqI (by rw [hfin])) (eqI (by rw [hfin])) (eqI (by rw [hfin]))) hS.ext
          ·
            simp only [Bool.and_eq_true, Bool.or_eq_true, Bool.and_eq_false_iff, Bool.or_eq_false_iff, decide_eq_true_eq, decide_eq_false_iff_not, Bool.not_eq_true, Bool.not_eq_false, Bool.not_not, Bool.not_eq_eq_eq_not, Bool.not_true, Bool.not_false, Bool.false_eq_true, Bool.true_eq_false, ne_eq, Decidable.not_not, not_false_eq_true, not_true_eq_false] at c68
            refine skip ?_
            show Code.wp _ _ _ _ _
            refine region ?_
            refine sv (yMove h9) ?_
            refine sv (yAdd rfl rfl ⟨by omega, by omega⟩) ?_
            refine sv (yAsg rfl) ?_
            refine nil ?_
            exact ⟨_, _, rfl, ⟨k + 1, h1, rfl, hS, (by omega), (by rw [hI]; exact namedR_step hx hd c68), rfl⟩, by omega⟩
        ·
          simp only [Bool.and_eq_true, Bool.or_eq_true, Bool.and_eq_false_iff, Bool.or_eq_false_iff, decide_eq_true_eq, decide_eq_false_iff_not, Bool.not_eq_true, Bool.not_eq_false, Bool.not_not, Bool.not_eq_eq_eq_not, Bool.not_true, Bool.not_false, Bool.false_eq_true, Bool.true_eq_false, ne_eq, Decidable.not_not, not_false_eq_true, not_true_eq_false] at c61
          refine exit ?_
          show Code.wp _ _ _ _ _
          refine seq ?_
          refine region ?_
          refine sv (yAsg rfl) ?_
          refine sv (yAsg rfl) ?_
          refine sv (yAsg rfl) ?_
          refine nil ?_
          show Code.wp _ _ _ _ _
          have hn0 : (namedR (·.name) (kndE c.keys.length) c.kinds [] 0).2 = 0 := by rw [hI, namedR_end (by omega)]
          have hfin := checkC_0 hsz ho0 hk0 hn0
          refine wp_ret ?_
          exact retV (res3 rfl (eqI (by rw [hfin])) (eqI (by rw [hfin])) (eqI (by rw [hfin]))) hS.ext
end Go.Proofs.Ytghgnofilbnbaaa
/- part C24 -/
namespace Bx
open Go Go.RowKit
def onE1 (c : Crew) (i : Int) : Int := if (checkC c).2.2 ≠ 0 then (checkC c).2.2 else if outB i 0 ((c.ops.length : Int) - 1) = true then 4 else 0
theorem onE1_yes {c : Crew} {i : Int} (h : (decide ((checkC c).2.2 = 0) && !inB i 0 ((c.ops.length : Int) - 1)) = true) : onE1 c i = 4 := by
  rw [Bool.and_eq_true, decide_eq_true_eq, inB_not] at h
  unfold onE1
  rw [if_neg (not_not_intro h.1), if_pos h.2]
theorem onE1_no {c : Crew} {i : Int} (h : (decide ((checkC c).2.2 = 0) && !inB i 0 ((c.ops.length : Int) - 1)) = false) : onE1 c i = (checkC c).2.2 := by
  rw [inB_not, Bool.and_eq_false_iff, decide_eq_false_iff_not] at h
  unfold onE1
  by_cases h0 : (checkC c).2.2 = 0
  · rw [if_neg (not_not_intro h0), if_neg (by rw [h.resolve_left (not_not_intro h0)]; decide), h0]
  · rw [if_pos h0]
theorem onE2_yes {c : Crew} {i m : Int} (h : (decide (onE1 c i = 0) && !inB m 0 100000) = true) : onE c i m = 7 := by
  rw [Bool.and_eq_true, decide_eq_true_eq, inB_not] at h
  obtain ⟨h1, h2⟩ := h
  unfold onE1 at h1
  split at h1
  · rename_i h; exact absurd h1 h
  split at h1
  · cases h1
  · rename_i h3 h4
    unfold onE
    rw [if_neg h3, if_neg h4, if_pos h2]
theorem onE2_no {c : Crew} {i m : Int} (h : (decide (onE1 c i = 0) && !inB m 0 100000) = false) : onE c i m = onE1 c i := by
  rw [inB_not, Bool.and_eq_false_iff, decide_eq_false_iff_not] at h
  unfold onE onE1
  split
  · rfl
  split
  · rfl
  · rename_i h3 h4
    rcases h with h | h
    · unfold onE1 at h; rw [if_neg h3, if_neg h4] at h; exact absurd rfl h
    · rw [if_neg (by rw [show neverB m = false from h]; decide)]
theorem onE_in {c : Crew} {i m : Int} (h : onE c i m = 0) : (0 ≤ i ∧ i < c.ops.length) ∧ 0 ≤ m ∧ m ≤ 100000 := by
  unfold onE at h
  split at h
  · rename_i h1; exact absurd h h1
  split at h
  · cases h
  split at h
  · cases h
  · rename_i h1 h2 h3
    rw [Bool.not_eq_true, outB_false] at h2
    rw [Bool.not_eq_true, neverB, outB_false] at h3
    omega
def ableE1 (c : Crew) (k : Int) : Int := if (checkC c).2.2 ≠ 0 then (checkC c).2.2 else if outB k 0 ((c.kinds.length : Int) - 1) = true then 4 else 0
theorem ableE1_yes {c : Crew} {i : Int} (h : (decide ((checkC c).2.2 = 0) && !inB i 0 ((c.kinds.length : Int) - 1)) = true) : ableE1 c i = 4 := by
  rw [Bool.and_eq_true, decide_eq_true_eq, inB_not] at h
  unfold ableE1
  rw [if_neg (not_not_intro h.1), if_pos h.2]
theorem ableE1_no {c : Crew} {i : Int} (h : (decide ((checkC c).2.2 = 0) && !inB i 0 ((c.kinds.length : Int) - 1)) = false) : ableE1 c i = (checkC c).2.2 := by
  rw [inB_not, Bool.and_eq_false_iff, decide_eq_false_iff_not] at h
  unfold ableE1
  by_cases h0 : (checkC c).2.2 = 0
  · rw [if_neg (not_not_intro h0), if_neg (by rw [h.resolve_left (not_not_intro h0)]; decide), h0]
  · rw [if_pos h0]
theorem ableE2_yes {c : Crew} {i m : Int} (h : (decide (ableE1 c i = 0) && !inB m 0 100000) = true) : ableE c i m = 7 := by
  rw [Bool.and_eq_true, decide_eq_true_eq, inB_not] at h
  obtain ⟨h1, h2⟩ := h
  unfold ableE1 at h1
  split at h1
  · rename_i h; exact absurd h1 h
  split at h1
  · cases h1
  · rename_i h3 h4
    unfold ableE
    rw [if_neg h3, if_neg h4, if_pos h2]
theorem ableE2_no {c : Crew} {i m : Int} (h : (decide (ableE1 c i = 0) && !inB m 0 100000) = false) : ableE c i m = ableE1 c i := by
  rw [inB_not, Bool.and_eq_false_iff, decide_eq_false_iff_not] at h
  unfold ableE ableE1
  split
  · rfl
  split
  · rfl
  · rename_i h3 h4
    rcases h with h | h
    · unfold ableE1 at h; rw [if_neg h3, if_neg h4] at h; exact absurd rfl h
    · rw [if_neg (by rw [show neverB m = false from h]; decide)]
theorem ableE_in {c : Crew} {i m : Int} (h : ableE c i m = 0) : (0 ≤ i ∧ i < c.kinds.length) ∧ 0 ≤ m ∧ m ≤ 100000 := by
  unfold ableE at h
  split at h
  · rename_i h1; exact absurd h h1
  split at h
  · cases h
  split at h
  · cases h
  · rename_i h1 h2 h3
    rw [Bool.not_eq_true, outB_false] at h2
    rw [Bool.not_eq_true, neverB, outB_false] at h3
    omega
theorem ableR_hit {c : Crew} {k m : Int} {p : Int × Int} (h : ([] : List (Int × Int)) ++ [p] <+: pairsL c (kndAt c k) m) : ableR c k m = (p.1, p.2, true) := by
  obtain ⟨r, hr⟩ := h
  unfold ableR
  rw [← hr]; rfl
theorem ableR_nil {c : Crew} {k m : Int} (h : pairsL c (kndAt c k) m = []) : ableR c k m = (0, 0, false) := by unfold ableR; rw [h]
theorem ableR_no {c : Crew} {k m : Int} (hE : ableE c k m = 0) (h : (ableR c k m).2.2 = false) : ableF c k m = (0, 0, 9) := by
  unfold ableR at h
  cases hp : pairsL c (kndAt c k) m with
  | nil => exact ableF_nil hE hp
  | cons p l => rw [hp] at h; cases h
theorem ableR_yes {c : Crew} {k m : Int} (hE : ableE c k m = 0) (h : (ableR c k m).2.2 = true) : ableF c k m = ((ableR c k m).1, (ableR c k m).2.1, 0) := by
  unfold ableR at h ⊢
  cases hp : pairsL c (kndAt c k) m with
  | nil => rw [hp] at h; cases h
  | cons p l => exact ableF_cons hE hp
theorem fit_no {c : Crew} {m g gr : Int} {i : Nat} (hg : gradeOf c (i : Int) = gr) (h : ((!onB c i m) || decide (gr < g)) = true) : fitB c m i g = false := by
  rw [fitB_nat, hg]
  simp only [Bool.or_eq_true, Bool.not_eq_true', decide_eq_true_eq] at h
  rw [Bool.and_eq_false_iff, decide_eq_false_iff_not]
  rcases h with h | h
  · exact .inr h
  · exact .inl (by omega)
theorem fit_yes {c : Crew} {m g gr : Int} {i : Nat} (hg : gradeOf c (i : Int) = gr) (h : ((!onB c i m) || decide (gr < g)) = false) : fitB c m i g = true := by
  rw [fitB_nat, hg]
  simp only [Bool.or_eq_false_iff, Bool.not_eq_false', decide_eq_false_iff_not] at h
  rw [Bool.and_eq_true, decide_eq_true_eq]
  exact ⟨by omega, h.1⟩
theorem fit_second {c : Crew} {m g gr i : Int} {k : Nat} (hg : gradeOf c (k : Int) = gr) : ((decide ((k : Int) ≠ i) && onB c k m) && decide (g ≤ gr)) = (decide ((k : Int) ≠ i) && fitB c m k g) := by
  rw [fitB_nat, hg, Bool.and_assoc, Bool.and_comm (onB c (k : Int) m)]
end Bx
namespace Bx
open Go Go.RowKit
def RTwoI (_ : World) (cs : List Value) (p : Int × Int) : Prop := cs = [.int .i64 p.1, .int .i64 p.2] ∧ I64 p.1 ∧ I64 p.2
theorem stepE_1 {c : Crew} {i : Int} {x : Stp} (h : (!inB x.kind 0 ((c.kinds.length : Int) - 1)) = true) : stepE c i x = 4 := by unfold stepE; rw [if_pos (by rw [← inB_not]; exact h)]
theorem stepE_2 {c : Crew} {i : Int} {x : Stp} (h : (!inB x.kind 0 ((c.kinds.length : Int) - 1)) = false) (h2 : (!inB x.subj 0 1000) = true) : stepE c i x = 7 := by unfold stepE; rw [if_neg (by rw [← inB_not, h]; decide), if_pos (by rw [← inB_not]; exact h2)]
theorem stepE_3 {c : Crew} {i : Int} {x : Stp} (h : (!inB x.kind 0 ((c.kinds.length : Int) - 1)) = false) (h2 : (!inB x.subj 0 1000) = false) (h3 : (!inB x.after (-1) (i - 1)) = true) : stepE c i x = 4 := by
  unfold stepE; rw [if_neg (by rw [← inB_not, h]; decide), if_neg (by rw [← inB_not, h2]; decide), if_pos (by rw [← inB_not]; exact h3)]
theorem stepE_4 {c : Crew} {i : Int} {x : Stp} (h : (!inB x.kind 0 ((c.kinds.length : Int) - 1)) = false) (h2 : (!inB x.subj 0 1000) = false) (h3 : (!inB x.after (-1) (i - 1)) = false) (h4 : ((!inB x.most 0 240) || (!inB x.least 0 x.most)) = true) : stepE c i x = 7 := by
  unfold stepE; rw [if_neg (by rw [← inB_not, h]; decide), if_neg (by rw [← inB_not, h2]; decide), if_neg (by rw [← inB_not, h3]; decide), if_pos (by rw [← inB_not, ← inB_not]; exact h4)]
theorem stepE_0 {c : Crew} {i : Int} {x : Stp} (h : (!inB x.kind 0 ((c.kinds.length : Int) - 1)) = false) (h2 : (!inB x.subj 0 1000) = false) (h3 : (!inB x.after (-1) (i - 1)) = false) (h4 : ((!inB x.most 0 240) || (!inB x.least 0 x.most)) = false) : stepE c i x = 0 := by
  unfold stepE; rw [if_neg (by rw [← inB_not, h]; decide), if_neg (by rw [← inB_not, h2]; decide), if_neg (by rw [← inB_not, h3]; decide), if_neg (by rw [← inB_not, ← inB_not, h4]; decide)]
theorem scriptF_1 {c : Crew} {s : Scr} (h : (checkC c).2.2 ≠ 0) : scriptF c s = (-1, (checkC c).2.2) := if_pos h
theorem scriptF_2 {c : Crew} {s : Scr} (h : (checkC c).2.2 = 0) (h2 : (!isName s.name) = true) : scriptF c s = (-1, 6) := by unfold scriptF; rw [if_neg (not_not_intro h), if_pos h2]
theorem scriptF_3 {c : Crew} {s : Scr} (h : (checkC c).2.2 = 0) (h2 : (!isName s.name) = false) (h3 : (!inB (s.steps.length : Int) 1 10) = true) : scriptF c s = (-1, 3) := by
  unfold scriptF; rw [if_neg (not_not_intro h), if_neg (by rw [h2]; decide), if_pos (by rw [← inB_not]; exact h3)]
theorem scriptF_4 {c : Crew} {s : Scr} (h : (checkC c).2.2 = 0) (h2 : (!isName s.name) = false) (h3 : (!inB (s.steps.length : Int) 1 10) = false) : scriptF c s = firstS c s.steps 0 := by
  unfold scriptF; rw [if_neg (not_not_intro h), if_neg (by rw [h2]; decide), if_neg (by rw [← inB_not, h3]; decide)]
theorem winS_ref {l : List (Int × Int)} {x : Stp} {a : Nat} {y : Int × Int} (ha : x.after = a) (hy : l[a]? = some y) : winS l x = (y.1 + x.least, y.2 + x.most) := by
  rw [winS_yes ha hy, Int.add_comm, Int.add_comm x.most]
end Bx
/- part Ck38 -/
namespace Go.Proofs.Ytghgnofilbnbaaa
open Go Bx
set_option maxHeartbeats 1000000 in
/-- barrage/barrageref10.on -/
theorem c_ron {c : Crew} {cs : List Value} {who m : Int} {w0 : World} (h : RCrew w0 cs c) (hw : 0 ≤ who ∧ who < c.ops.length) : CV Try.prog 71 #[.agg cs.toArray, .int .i64 who, .int .i64 m] w0 (.bool (onB c who m)) := by
  obtain ⟨ov, kv, nv, rfl, hso, hsk, hsn, hrm⟩ := id h
  obtain ⟨a, cap, rfl, hcap, hmx, hel⟩ := id hso
  obtain ⟨i, rfl⟩ := Int.eq_ofNat_of_zero_le hw.1
  obtain ⟨u, hxq, hdq⟩ := drop_of (l := c.ops) (k := i) (by omega)
  obtain ⟨bq, oq, csq, haq, hlenq, hcsq, hRq⟩ := hel (i) (by omega)
  obtain rfl : u = c.ops[i] := (List.getElem?_eq_some_iff.1 hxq).2.symm
  generalize c.ops[i] = u at hxq hdq hRq
  have hR := hRq
  obtain ⟨dv, rfl, -, -, hsd, -⟩ := id hR
  obtain ⟨ad, cd, rfl, -⟩ := id hsd
  obtain ⟨ad2, cd2, hvv, hdcap, hdmx, held⟩ := id hsd
  obtain ⟨rfl, rfl⟩ := slice_inj hvv.symm
  have honb : onB c (i : Int) m = u.duty.any (spnAt m) := by unfold onB oprAt; rw [Int.toNat_natCast, getD_hit hxq]
  refine enter Try.func71 rfl Try.ntmps71 rfl ?_
  have hS := St.start w0
  refine seq ?_
  refine region ?_
  refine sbox hS rfl rfl ?_; clear hS; intro b3 w hS
  refine sv (yAsg rfl) ?_
  refine nil ?_
  show Code.wp _ _ _ _ _
  refine seq ?_
  refine region ?_
  refine sv (fa26_0 rfl) ?_
  refine sv (yLdB rfl Try.isAgg22 (hS.at _) rfl) ?_
  refine sv (yMove rfl) ?_
  refine sv (yIxa rfl haq rfl Try.runUnderlying22 Try.sizeOf42 (by omega) (by omega)) ?_
  refine sv (fa42_2 rfl) ?_
  refine sv (yLd rfl Try.isAgg40 ((hcsq.ext hS.ext).at (j := 2) rfl)) ?_
  refine sv (yAsg rfl) ?_
  refine nil ?_
  show Code.wp _ _ _ _ _
  refine seq ?_
  refine seq ?_
  refine region ?_
  refine sv (yAsg rfl) ?_
  refine nil ?_
  show Code.wp _ _ _ _ _
  refine block ?_
  refine loop (fun f w zz => ∃ (k : Nat), f 2 = .int .i64 m ∧ f 7 = .slice ad u.duty.length cd ∧ f 8 = .int .i64 (k : Int) ∧ StX [] w0 w [blk b3 [.slice a c.ops.length cap, kv, nv] 26] ∧ (k ≤ u.duty.length) ∧ ((u.duty.take k).any (spnAt m) = false) ∧ zz = u.duty.length - k) _ ⟨_, rfl, 0, rfl, rfl, rfl, hS, (Nat.zero_le _), (rfl), rfl⟩ ?_
  clear hS
  rintro f w _ ⟨k, h2, h7, h8, hS, hk, hN, rfl⟩
  refine seq ?_
  refine seq ?_
  refine region ?_
  refine sv (yMove h8) ?_
  refine sv (yMove h7) ?_
  refine sv (yLen rfl Try.underlying40) ?_
  refine sv (yLss rfl rfl) ?_
  refine nil ?_
  show Code.wp _ _ _ _ _
  refine cond rfl (fun c18 => ?_) (fun c18 => ?_)
  ·
    simp only [Bool.and_eq_true, Bool.or_eq_true, Bool.and_eq_false_iff, Bool.or_eq_false_iff, decide_eq_true_eq, decide_eq_false_iff_not, Bool.not_eq_true, Bool.not_eq_false, Bool.not_not, Bool.not_eq_eq_eq_not, Bool.not_true, Bool.not_false, Bool.false_eq_true, Bool.true_eq_false, ne_eq, Decidable.not_not, not_false_eq_true, not_true_eq_false] at c18
    refine skip ?_
    show Code.wp _ _ _ _ _
    refine seq ?_
    refine block ?_
    refine seq ?_
    refine region ?_
    obtain ⟨s, hxs, hds⟩ := drop_of (l := u.duty) (k := k) (by omega)
    obtain ⟨bs, os, css, has, hlens, hcss, hRs⟩ := held (k) (by omega)
    obtain rfl : s = u.duty[k] := (List.getElem?_eq_some_iff.1 hxs).2.symm
    generalize u.duty[k] = s at hxs hds hRs
    obtain ⟨rfl, hsi⟩ := hRs
    refine sv (yMove h7) ?_
    refine sv (yMove h8) ?_
    refine sv (yIxa rfl has rfl Try.runUnderlying40 Try.sizeOf44 (by omega) (by omega)) ?_
    refine sv (fa44_0 rfl) ?_
    refine sv (yLd rfl Try.isAgg3 ((hcss.ext hS.ext).at (j := 0) rfl)) ?_
    refine sv (yMove h2) ?_
    refine sv (yLeq rfl rfl) ?_
    refine sv (yMove rfl) ?_
    refine sg rfl rfl rfl (fun g => (yMove h2)) (fun v29 g29 => ?_)
    refine sg rfl rfl rfl (fun g => (yMove h7)) (fun v30 g30 => ?_)
    refine sg rfl rfl rfl (fun g => (yMove h8)) (fun v31 g31 => ?_)
    refine sg rfl rfl rfl (fun g => (yIxa (g30.1 g) has (g31.1 g) Try.runUnderlying40 Try.sizeOf44 (by omega) (by omega))) (fun v32 g32 => ?_)
    refine sg rfl rfl rfl (fun g => (fa44_1 (g32.1 g))) (fun v33 g33 => ?_)
    refine sg rfl rfl rfl (fun g => (yLd (g33.1 g) Try.isAgg3 ((hcss.ext hS.ext).at (j := 1) rfl))) (fun v34 g34 => ?_)
    refine sg rfl rfl rfl (fun g => (yLss (g29.1 g) (g34.1 g))) (fun v35 g35 => ?_)
    refine sv (yAnd rfl (fun hB => (g35.1 hB)) rfl) ?_
    refine nil ?_
    show Code.wp _ _ _ _ _
    refine cond rfl (fun c36 => ?_) (fun c36 => ?_)
    ·
      refine seq ?_
      refine region ?_
      refine sv (yAsg rfl) ?_
      refine nil ?_
      show Code.wp _ _ _ _ _
      refine wp_ret (blockR (thenR (thenR (blockR (thenR ?_)))))
      exact retV (res1 rfl (eqB (honb.trans (List.any_eq_true.2 ⟨s, List.mem_of_getElem? hxs, c36⟩)))) hS.ext
    ·
      refine skip ?_
      show Code.wp _ _ _ _ _
      refine region ?_
      refine sv (yMove h8) ?_
      refine sv (yAdd rfl rfl ⟨by omega, by omega⟩) ?_
      refine sv (yAsg rfl) ?_
      refine nil ?_
      exact ⟨_, _, rfl, ⟨k + 1, h2, h7, rfl, hS, (by omega), (by rw [take_snoc hxs, List.any_append, hN, List.any_cons, List.any_nil, show spnAt m s = false from c36]; rfl), rfl⟩, by omega⟩
  ·
    simp only [Bool.and_eq_true, Bool.or_eq_true, Bool.and_eq_false_iff, Bool.or_eq_false_iff, decide_eq_true_eq, decide_eq_false_iff_not, Bool.not_eq_true, Bool.not_eq_false, Bool.not_not, Bool.not_eq_eq_eq_not, Bool.not_true, Bool.not_false, Bool.false_eq_true, Bool.true_eq_false, ne_eq, Decidable.not_not, not_false_eq_true, not_true_eq_false] at c18
    refine exit ?_
    show Code.wp _ _ _ _ _
    refine seq ?_
    refine region ?_
    refine sv (yAsg rfl) ?_
    refine nil ?_
    show Code.wp _ _ _ _ _
    obtain rfl : k = u.duty.length := by omega
    rw [List.take_length] at hN
    refine wp_ret ?_
    exact retV (res1 rfl (eqB (honb.trans hN))) hS.ext
set_option maxHeartbeats 2000000 in
/-- barrage/barrageref10.On -/
theorem c_rOn {c : Crew} {cs : List Value} {who m : Int} {w0 : World} (h : RCrew w0 cs c) : CV Try.prog 34 #[.agg cs.toArray, .int .i64 who, .int .i64 m] w0 (.tuple #[.bool (onF c who m).1, .int .i64 (onF c who m).2]) := by
  obtain ⟨ov, kv, nv, rfl, hso, hsk, hsn, hrm⟩ := id h
  obtain ⟨a, cap, rfl, hcap, hmx, hel⟩ := id hso
  refine enter Try.func34 rfl Try.ntmps34 rfl ?_
  have hS := St.start w0
  refine seq ?_
  refine region ?_
  refine sbox hS rfl rfl ?_; clear hS; intro b3 w hS
  refine sv (yAsg rfl) ?_
  refine sv (yAsg rfl) ?_
  refine nil ?_
  show Code.wp _ _ _ _ _
  refine seq ?_
  refine region ?_
  refine sv (yLdBA rfl Try.isAgg26 Try.sizeOf26 (hS.at _) rfl rfl) ?_
  refine scall Try.call32 (.cons rfl .nil) (c_rCheck (h.ext hS.ext)) ?_
  rintro _ w ⟨rfl, hE⟩; replace hS := hS.step hE; clear hE
  refine sv (yMove rfl) ?_
  refine sv (yExt rfl rfl) ?_
  refine sv (yExt rfl rfl) ?_
  refine sv (yExt rfl rfl) ?_
  refine sv (yAsg rfl) ?_
  refine sv (yAsg rfl) ?_
  refine sv (yAsg rfl) ?_
  refine nil ?_
  show Code.wp _ _ _ _ _
  refine seqJ (n := 42) (fun f w => f 1 = .int .i64 who ∧ f 2 = .int .i64 m ∧ f 3 = .pointer (some ⟨b3, 0, none⟩) ∧ f 10 = .int .i64 (onE1 c who) ∧ StX [] w0 w [blk b3 [.slice a c.ops.length cap, kv, nv] 26] ∧ True) ?_ ?_
  ·
    refine seq ?_
    refine region ?_
    refine sv (yMove rfl) ?_
    refine sv (yEql rfl rfl) ?_
    refine sv (yMove rfl) ?_
    refine sg rfl rfl rfl (fun g => (yMove rfl)) (fun v20 g20 => ?_)
    refine sg rfl rfl rfl (fun g => (fa26_0 rfl)) (fun v21 g21 => ?_)
    refine sg rfl rfl rfl (fun g => (yLdB (g21.1 g) Try.isAgg22 (hS.at _) rfl)) (fun v22 g22 => ?_)
    refine sg rfl rfl rfl (fun g => (yLen (g22.1 g) Try.underlying22)) (fun v23 g23 => ?_)
    refine sg rfl rfl rfl (fun g => (ySub (g23.1 g) rfl ⟨by omega, by omega⟩)) (fun v24 g24 => ?_)
    refine sgc hS rfl rfl rfl Try.call54 (fun g => (.cons (g20.1 g) (.cons rfl (.cons (g24.1 g) .nil)))) (fun g => c_in) ?_; clear hS; intro v25 w hS g25
    refine sg rfl rfl rfl (fun g => (yNot (g25.1 g))) (fun v26 g26 => ?_)
    refine sv (yAnd rfl (fun hB => (g26.1 hB)) rfl) ?_
    refine nil ?_
    show Code.wp _ _ _ _ _
    refine cond rfl (fun c27 => ?_) (fun c27 => ?_)
    ·
      refine region ?_
      refine sv (yAsg rfl) ?_
      refine nil ?_
      exact ⟨_, rfl, rfl, rfl, rfl, rfl.trans (congrArg (Value.int .i64) (onE1_yes c27).symm), hS, trivial⟩
    ·
      refine skip ?_
      exact ⟨_, rfl, rfl, rfl, rfl, rfl.trans (congrArg (Value.int .i64) (onE1_no c27).symm), hS, trivial⟩
  ·
    clear hS; rintro f w ⟨h1, h2, h3, h10, hS, -⟩
    refine seqJ (n := 42) (fun f w => f 1 = .int .i64 who ∧ f 2 = .int .i64 m ∧ f 3 = .pointer (some ⟨b3, 0, none⟩) ∧ f 10 = .int .i64 (onE c who m) ∧ StX [] w0 w [blk b3 [.slice a c.ops.length cap, kv, nv] 26] ∧ True) ?_ ?_
    ·
      refine seq ?_
      refine region ?_
      refine sv (yMove h10) ?_
      refine sv (yEql rfl rfl) ?_
      refine sv (yMove rfl) ?_
      refine sg rfl rfl rfl (fun g => (yMove h2)) (fun v31 g31 => ?_)
      refine sgc hS rfl rfl rfl Try.call46 (fun g => (.cons (g31.1 g) .nil)) (fun g => c_rminute) ?_; clear hS; intro v32 w hS g32
      refine sg rfl rfl rfl (fun g => (yNot (g32.1 g))) (fun v33 g33 => ?_)
      refine sv (yAnd rfl (fun hB => (g33.1 hB)) rfl) ?_
      refine nil ?_
      show Code.wp _ _ _ _ _
      refine cond rfl (fun c34 => ?_) (fun c34 => ?_)
      ·
        refine region ?_
        refine sv (yAsg rfl) ?_
        refine nil ?_
        exact ⟨_, rfl, h1, h2, h3, rfl.trans (congrArg (Value.int .i64) (onE2_yes c34).symm), hS, trivial⟩
      ·
        refine skip ?_
        exact ⟨_, rfl, h1, h2, h3, h10.trans (congrArg (Value.int .i64) (onE2_no c34).symm), hS, trivial⟩
    ·
      clear hS; rintro f w ⟨h1, h2, h3, h10, hS, -⟩
      refine seq ?_
      refine seq ?_
      refine region ?_
      refine sv (yMove h10) ?_
      refine sv (yNeq rfl rfl) ?_
      refine nil ?_
      show Code.wp _ _ _ _ _
      refine cond rfl (fun c36 => ?_) (fun c36 => ?_)
      ·
        refine seq ?_
        refine region ?_
        refine sv (yMove h10) ?_
        refine sv (yAsg rfl) ?_
        refine sv (yAsg rfl) ?_
        refine nil ?_
        show Code.wp _ _ _ _ _
        have hfin : onF c who m = (false, onE c who m) := if_pos (of_decide_eq_true c36)
        refine wp_ret (thenR ?_)
        exact retV (res2 rfl (eqB (by rw [hfin])) (eqI (by rw [hfin]))) hS.ext
      ·
        refine skip ?_
        show Code.wp _ _ _ _ _
        refine seq ?_
        refine region ?_
        refine sv (yLdBA h3 Try.isAgg26 Try.sizeOf26 (hS.at _) rfl rfl) ?_
        refine sv (yMove h1) ?_
        refine sv (yMove h2) ?_
        have hE0 : onE c who m = 0 := by simpa using c36
        obtain ⟨hr1, -⟩ := onE_in hE0
        refine scall Try.call71 (.cons rfl (.cons rfl (.cons rfl .nil))) (c_ron (h.ext hS.ext) hr1) ?_
        rintro _ w ⟨rfl, hE⟩; replace hS := hS.step hE; clear hE
        refine sv (yAsg rfl) ?_
        refine sv (yAsg rfl) ?_
        refine nil ?_
        show Code.wp _ _ _ _ _
        have hfin : onF c who m = (onB c who m, 0) := if_neg (not_not_intro hE0)
        refine wp_ret ?_
        exact retV (res2 rfl (eqB (by rw [hfin])) (eqI (by rw [hfin]))) hS.ext
set_option maxHeartbeats 4000000 in
/-- barrage/barrageref10.able -/
theorem c_rable {c : Crew} {cs : List Value} {kd m : Int} {w0 : World} (h : RCrew w0 cs c) (hk0 : 0 ≤ kd ∧ kd < c.kinds.length) : CV Try.prog 72 #[.agg cs.toArray, .int .i64 kd, .int .i64 m] w0 (.tuple #[.int .i64 (ableR c kd m).1, .int .i64 (ableR c kd m).2.1, .bool (ableR c kd m).2.2]) := by
  obtain ⟨ov, kv, nv, rfl, hso, hsk, hsn, hrm⟩ := id h
  obtain ⟨a, cap, rfl, hcap, hmx, hel⟩ := id hso
  obtain ⟨an, cn, rfl, hncap, hnmx, heln⟩ := id hsn
  obtain ⟨kk, hkk⟩ := Int.eq_ofNat_of_zero_le hk0.1
  have hkl : kk < c.kinds.length := by omega
  obtain ⟨x, hxk, hdk⟩ := drop_of (l := c.kinds) (k := kk) (by omega)
  obtain ⟨bk, ok, csk, hak, hlenk, hcsk, hRk⟩ := heln (kk) (by omega)
  obtain rfl : x = c.kinds[kk] := (List.getElem?_eq_some_iff.1 hxk).2.symm
  generalize c.kinds[kk] = x at hxk hdk hRk
  obtain ⟨xv, rfl, -, -, -, -, hsx, -⟩ := hRk
  obtain ⟨axk, cxk, rfl, -⟩ := id hsx
  have hz := kndAt_hit hkk hxk
  refine enter Try.func72 rfl Try.ntmps72 rfl ?_
  have hS := St.start w0
  refine seq ?_
  refine region ?_
  refine sbox hS rfl rfl ?_; clear hS; intro b3 w hS
  refine sv (yAsg rfl) ?_
  refine sv (yAsg rfl) ?_
  refine sv (yAsg rfl) ?_
  refine nil ?_
  show Code.wp _ _ _ _ _
  refine seq ?_
  refine region ?_
  refine sv (fa26_2 rfl) ?_
  refine sv (yLdB rfl Try.isAgg24 (hS.at _) rfl) ?_
  refine sv (yMove rfl) ?_
  refine sv (yIxa rfl hak (rfl.trans (congrArg (Value.int .i64) hkk)) Try.runUnderlying24 Try.sizeOf79 (by omega) (by omega)) ?_
  refine sv (yLdA rfl Try.isAgg79 Try.sizeOf79 (hcsk.ext hS.ext) rfl) ?_
  refine salloc hS Try.zeroValue79 rfl ?_; clear hS; intro b9 w hS
  refine sst hS rfl rfl Try.sizeOf79 rfl rfl rfl rfl ?_; clear hS; intro w hS
  refine nil ?_
  show Code.wp _ _ _ _ _
  refine seq ?_
  refine seq ?_
  refine region ?_
  refine sv (yAsg rfl) ?_
  refine nil ?_
  show Code.wp _ _ _ _ _
  refine block ?_
  refine loop (fun f w zz => ∃ (i : Nat), f 2 = .int .i64 m ∧ f 3 = .pointer (some ⟨b3, 0, none⟩) ∧ f 9 = .pointer (some ⟨b9, 0, none⟩) ∧ f 10 = .int .i64 (i : Int) ∧ StX [] w0 w [blk b9 [.string x.name, .int .i64 x.grade, .int .i64 x.second, .int .i64 x.within, .slice axk x.keys.length cxk, .bool x.split] 79, blk b3 [.slice a c.ops.length cap, kv, .slice an c.kinds.length cn] 26] ∧ (i ≤ c.ops.length) ∧ (prP c x m i = []) ∧ zz = c.ops.length - i) _ ⟨_, rfl, 0, rfl, rfl, rfl, rfl, hS, (Nat.zero_le _), (rfl), rfl⟩ ?_
  clear hS
  rintro f w _ ⟨i, h2, h3, h9, h10, hS, hi, hP, rfl⟩
  refine seq ?_
  refine seq ?_
  refine region ?_
  refine sv (yMove h10) ?_
  refine sv (fa26_0 h3) ?_
  refine sv (yLdB rfl Try.isAgg22 (hS.at _) rfl) ?_
  refine sv (yLen rfl Try.underlying22) ?_
  refine sv (yLss rfl rfl) ?_
  refine nil ?_
  show Code.wp _ _ _ _ _
  refine cond rfl (fun c21 => ?_) (fun c21 => ?_)
  ·
    simp only [Bool.and_eq_true, Bool.or_eq_true, Bool.and_eq_false_iff, Bool.or_eq_false_iff, decide_eq_true_eq, decide_eq_false_iff_not, Bool.not_eq_true, Bool.not_eq_false, Bool.not_not, Bool.not_eq_eq_eq_not, Bool.not_true, Bool.not_false, Bool.false_eq_true, Bool.true_eq_false, ne_eq, Decidable.not_not, not_false_eq_true, not_true_eq_false] at c21
    refine skip ?_
    show Code.wp _ _ _ _ _
    refine seq ?_
    refine block ?_
    refine seq ?_
    refine seq ?_
    refine region_draw mixed (by kernel_rfl) hS ?_
    obtain ⟨u, hxu, hdu⟩ := drop_of (l := c.ops) (k := i) (by omega)
    obtain ⟨bu, ou, csu, hau, hlenu, hcsu, hRu⟩ := hel (i) (by omega)
    obtain rfl : u = c.ops[i] := (List.getElem?_eq_some_iff.1 hxu).2.symm
    generalize c.ops[i] = u at hxu hdu hRu
    have hRv := hRu
    obtain ⟨duv, rfl, -⟩ := id hRv
    have hgu := oprGrade (c := c) (i := (i : Int)) rfl hxu
    refine qv (fun w hS => (yLdBA h3 Try.isAgg26 Try.sizeOf26 (hS.at _) rfl rfl)) ?_
    refine qv (fun w hS => (yMove h10)) ?_
    refine qv (fun w hS => (yMove h2)) ?_
    refine qcall Try.call71 (.cons rfl (.cons rfl (.cons rfl .nil))) (fun w hS => (c_ron (h.ext hS.ext) ⟨by omega, by omega⟩)) ?_
    refine qv (fun w hS => (yNot rfl)) ?_
    refine qv (fun w hS => (yMove rfl)) ?_
    refine qg rfl rfl rfl (fun g w hS => (fa26_0 h3)) (fun v30 g30 => ?_)
    refine qg rfl rfl rfl (fun g w hS => (yLdB (g30.1 g) Try.isAgg22 (hS.at _) rfl)) (fun v31 g31 => ?_)
    refine qg rfl rfl rfl (fun g w hS => (yMove h10)) (fun v32 g32 => ?_)
    refine qg rfl rfl rfl (fun g w hS => (yIxa (g31.1 g) hau (g32.1 g) Try.runUnderlying22 Try.sizeOf42 (by omega) (by omega))) (fun v33 g33 => ?_)
    refine qg rfl rfl rfl (fun g w hS => (fa42_1 (g33.1 g))) (fun v34 g34 => ?_)
    refine qg rfl rfl rfl (fun g w hS => (yLd (g34.1 g) Try.isAgg3 ((hcsu.ext hS.ext).at (j := 1) rfl))) (fun v35 g35 => ?_)
    refine qg rfl rfl rfl (fun g w hS => (fa79_1 h9)) (fun v36 g36 => ?_)
    refine qg rfl rfl rfl (fun g w hS => (yLdB (g36.1 g) Try.isAgg3 (hS.at _) rfl)) (fun v37 g37 => ?_)
    refine qg rfl rfl rfl (fun g w hS => (yLss (g35.1 g) (g37.1 g))) (fun v38 g38 => ?_)
    refine qv (fun w hS => (yOr rfl rfl (fun hB => (g38.1 hB)))) ?_
    clear hS; refine qnil (fun w hS => ?_)
    show Code.wp _ _ _ _ _
    refine cond rfl (fun c39 => ?_) (fun c39 => ?_)
    ·
      have hfit : fitB c m i x.grade = false := fit_no hgu c39
      refine exit ?_
      show Code.wp _ _ _ _ _
      refine region ?_
      refine sv (yMove h10) ?_
      refine sv (yAdd rfl rfl ⟨by omega, by omega⟩) ?_
      refine sv (yAsg rfl) ?_
      refine nil ?_
      exact ⟨_, _, rfl, ⟨i + 1, h2, h3, h9, rfl, hS, (by omega), (by rw [prP_succ, hP, rowP, if_neg (fun hh => by rw [hh] at hfit; cases hfit)]; rfl), rfl⟩, by omega⟩
    ·
      have hfit : fitB c m i x.grade = true := fit_yes hgu c39
      refine skip ?_
      show Code.wp _ _ _ _ _
      refine seq ?_
      refine seq ?_
      refine region ?_
      refine sv (fa79_2 h9) ?_
      refine sv (yLdB rfl Try.isAgg3 (hS.at _) rfl) ?_
      refine sv (yEql rfl rfl) ?_
      refine nil ?_
      show Code.wp _ _ _ _ _
      refine cond rfl (fun c42 => ?_) (fun c42 => ?_)
      ·
        simp only [Bool.and_eq_true, Bool.or_eq_true, Bool.and_eq_false_iff, Bool.or_eq_false_iff, decide_eq_true_eq, decide_eq_false_iff_not, Bool.not_eq_true, Bool.not_eq_false, Bool.not_not, Bool.not_eq_eq_eq_not, Bool.not_true, Bool.not_false, Bool.false_eq_true, Bool.true_eq_false, ne_eq, Decidable.not_not, not_false_eq_true, not_true_eq_false] at c42
        refine seq ?_
        refine region ?_
        refine sv (yMove h10) ?_
        refine sv (yAsg rfl) ?_
        refine sv (yAsg rfl) ?_
        refine sv (yAsg rfl) ?_
        refine nil ?_
        show Code.wp _ _ _ _ _
        have hfin : ableR c kd m = ((i : Int), -1, true) := ableR_hit (by rw [hz]; have := pre_one (by omega) hfit c42; rwa [hP] at this)
        refine wp_ret (thenR (blockR (thenR (thenR (blockR (thenR ?_))))))
        exact retV (res3 rfl (eqI (by rw [hfin])) (eqI (by rw [hfin])) (eqB (by rw [hfin]))) hS.ext
      ·
        simp only [Bool.and_eq_true, Bool.or_eq_true, Bool.and_eq_false_iff, Bool.or_eq_false_iff, decide_eq_true_eq, decide_eq_false_iff_not, Bool.not_eq_true, Bool.not_eq_false, Bool.not_not, Bool.not_eq_eq_eq_not, Bool.not_true, Bool.not_false, Bool.false_eq_true, Bool.true_eq_false, ne_eq, Decidable.not_not, not_false_eq_true, not_true_eq_false] at c42
        refine skip ?_
        show Code.wp _ _ _ _ _
        refine seq ?_
        refine region ?_
        refine sv (yAsg rfl) ?_
        refine nil ?_
        show Code.wp _ _ _ _ _
        refine block ?_
        refine loop (fun f w zz => ∃ (k : Nat), f 2 = .int .i64 m ∧ f 3 = .pointer (some ⟨b3, 0, none⟩) ∧ f 9 = .pointer (some ⟨b9, 0, none⟩) ∧ f 10 = .int .i64 (i : Int) ∧ f 11 = .int .i64 (k : Int) ∧ StX [] w0 w [blk b9 [.string x.name, .int .i64 x.grade, .int .i64 x.second, .int .i64 x.within, .slice axk x.keys.length cxk, .bool x.split] 79, blk b3 [.slice a c.ops.length cap, kv, .slice an c.kinds.length cn] 26] ∧ (k ≤ c.ops.length) ∧ (inP c x m i k = []) ∧ zz = c.ops.length - k) _ ⟨_, rfl, 0, h2, h3, h9, h10, rfl, hS, (Nat.zero_le _), (rfl), rfl⟩ ?_
        clear hS
        rintro f w _ ⟨k, h2, h3, h9, h10, h11, hS, hk, hQ, rfl⟩
        refine seq ?_
        refine seq ?_
        refine region ?_
        refine sv (yMove h11) ?_
        refine sv (fa26_0 h3) ?_
        refine sv (yLdB rfl Try.isAgg22 (hS.at _) rfl) ?_
        refine sv (yLen rfl Try.underlying22) ?_
        refine sv (yLss rfl rfl) ?_
        refine nil ?_
        show Code.wp _ _ _ _ _
        refine cond rfl (fun c48 => ?_) (fun c48 => ?_)
        ·
          simp only [Bool.and_eq_true, Bool.or_eq_true, Bool.and_eq_false_iff, Bool.or_eq_false_iff, decide_eq_true_eq, decide_eq_false_iff_not, Bool.not_eq_true, Bool.not_eq_false, Bool.not_not, Bool.not_eq_eq_eq_not, Bool.not_true, Bool.not_false, Bool.false_eq_true, Bool.true_eq_false, ne_eq, Decidable.not_not, not_false_eq_true, not_true_eq_false] at c48
          refine skip ?_
          show Code.wp _ _ _ _ _
          refine seq ?_
          refine block ?_
          refine seq ?_
          refine region_draw mixed (by kernel_rfl) hS ?_
          obtain ⟨v, hxv, hdv⟩ := drop_of (l := c.ops) (k := k) (by omega)
          obtain ⟨bv, ov, csv, hav, hlenv, hcsv, hRv⟩ := hel (k) (by omega)
          obtain rfl : v = c.ops[k] := (List.getElem?_eq_some_iff.1 hxv).2.symm
          generalize c.ops[k] = v at hxv hdv hRv
          have hRw := hRv
          obtain ⟨dvv, rfl, -⟩ := id hRw
          have hgv := oprGrade (c := c) (i := (k : Int)) rfl hxv
          refine qv (fun w hS => (yMove h11)) ?_
          refine qv (fun w hS => (yMove h10)) ?_
          refine qv (fun w hS => (yNeq rfl rfl)) ?_
          refine qv (fun w hS => (yMove rfl)) ?_
          refine qg rfl rfl rfl (fun g w hS => (yLdBA h3 Try.isAgg26 Try.sizeOf26 (hS.at _) rfl rfl)) (fun v55 g55 => ?_)
          refine qg rfl rfl rfl (fun g w hS => (yMove h11)) (fun v56 g56 => ?_)
          refine qg rfl rfl rfl (fun g w hS => (yMove h2)) (fun v57 g57 => ?_)
          refine qgc rfl rfl rfl Try.call71 (fun g => (.cons (g55.1 g) (.cons (g56.1 g) (.cons (g57.1 g) .nil)))) (fun g w hS => (c_ron (h.ext hS.ext) ⟨by omega, by omega⟩)) (fun v58 g58 => ?_)
          refine qv (fun w hS => (yAnd rfl (fun hB => (g58.1 hB)) rfl)) ?_
          refine qv (fun w hS => (yMove rfl)) ?_
          refine qg rfl rfl rfl (fun g w hS => (fa26_0 h3)) (fun v61 g61 => ?_)
          refine qg rfl rfl rfl (fun g w hS => (yLdB (g61.1 g) Try.isAgg22 (hS.at _) rfl)) (fun v62 g62 => ?_)
          refine qg rfl rfl rfl (fun g w hS => (yMove h11)) (fun v63 g63 => ?_)
          refine qg rfl rfl rfl (fun g w hS => (yIxa (g62.1 g) hav (g63.1 g) Try.runUnderlying22 Try.sizeOf42 (by omega) (by omega))) (fun v64 g64 => ?_)
          refine qg rfl rfl rfl (fun g w hS => (fa42_1 (g64.1 g))) (fun v65 g65 => ?_)
          refine qg rfl rfl rfl (fun g w hS => (yLd (g65.1 g) Try.isAgg3 ((hcsv.ext hS.ext).at (j := 1) rfl))) (fun v66 g66 => ?_)
          refine qg rfl rfl rfl (fun g w hS => (fa79_2 h9)) (fun v67 g67 => ?_)
          refine qg rfl rfl rfl (fun g w hS => (yLdB (g67.1 g) Try.isAgg3 (hS.at _) rfl)) (fun v68 g68 => ?_)
          refine qg rfl rfl rfl (fun g w hS => (yGeq (g66.1 g) (g68.1 g))) (fun v69 g69 => ?_)
          refine qv (fun w hS => (yAnd rfl (fun hB => (g69.1 hB)) rfl)) ?_
          clear hS; refine qnil (fun w hS => ?_)
          show Code.wp _ _ _ _ _
          refine cond rfl (fun c70 => ?_) (fun c70 => ?_)
          ·
            have hg2 : (decide ((k : Int) ≠ i) && fitB c m k x.second) = true := (fit_second hgv).symm.trans c70
            refine seq ?_
            refine region ?_
            refine sv (yMove h10) ?_
            refine sv (yMove h11) ?_
            refine sv (yAsg rfl) ?_
            refine sv (yAsg rfl) ?_
            refine sv (yAsg rfl) ?_
            refine nil ?_
            show Code.wp _ _ _ _ _
            have hfin : ableR c kd m = ((i : Int), (k : Int), true) := ableR_hit (by rw [hz]; have := pre_two (by omega) (by omega) hfit c42 hg2; rwa [hP, hQ] at this)
            refine wp_ret (blockR (thenR (thenR (blockR (blockR (thenR (thenR (blockR (thenR ?_)))))))))
            exact retV (res3 rfl (eqI (by rw [hfin])) (eqI (by rw [hfin])) (eqB (by rw [hfin]))) hS.ext
          ·
            have hg2 : (decide ((k : Int) ≠ i) && fitB c m k x.second) = false := (fit_second hgv).symm.trans c70
            refine skip ?_
            show Code.wp _ _ _ _ _
            refine region ?_
            refine sv (yMove h11) ?_
            refine sv (yAdd rfl rfl ⟨by omega, by omega⟩) ?_
            refine sv (yAsg rfl) ?_
            refine nil ?_
            exact ⟨_, _, rfl, ⟨k + 1, h2, h3, h9, h10, rfl, hS, (by omega), (by rw [inP_out hg2, hQ]), rfl⟩, by omega⟩
        ·
          simp only [Bool.and_eq_true, Bool.or_eq_true, Bool.and_eq_false_iff, Bool.or_eq_false_iff, decide_eq_true_eq, decide_eq_false_iff_not, Bool.not_eq_true, Bool.not_eq_false, Bool.not_not, Bool.not_eq_eq_eq_not, Bool.not_true, Bool.not_false, Bool.false_eq_true, Bool.true_eq_false, ne_eq, Decidable.not_not, not_false_eq_true, not_true_eq_false] at c48
          refine exit ?_
          show Code.wp _ _ _ _ _
          refine region ?_
          refine sv (yMove h10) ?_
          refine sv (yAdd rfl rfl ⟨by omega, by omega⟩) ?_
          refine sv (yAsg rfl) ?_
          refine nil ?_
          exact ⟨_, _, rfl, ⟨i + 1, h2, h3, h9, rfl, hS, (by omega), (by rw [prP_succ, hP, rowP, if_pos hfit, if_neg c42, show c.ops.length = k by omega]; exact hQ), rfl⟩, by omega⟩
  ·
    simp only [Bool.and_eq_true, Bool.or_eq_true, Bool.and_eq_false_iff, Bool.or_eq_false_iff, decide_eq_true_eq, decide_eq_false_iff_not, Bool.not_eq_true, Bool.not_eq_false, Bool.not_not, Bool.not_eq_eq_eq_not, Bool.not_true, Bool.not_false, Bool.false_eq_true, Bool.true_eq_false, ne_eq, Decidable.not_not, not_false_eq_true, not_true_eq_false] at c21
    refine exit ?_
    show Code.wp _ _ _ _ _
    refine seq ?_
    refine region ?_
    refine sv (yAsg rfl) ?_
    refine sv (yAsg rfl) ?_
    refine sv (yAsg rfl) ?_
    refine nil ?_
    show Code.wp _ _ _ _ _
    have hfin : ableR c kd m = (0, 0, false) := ableR_nil (by rw [hz]; unfold pairsL; rw [show c.ops.length = i by omega]; exact hP)
    refine wp_ret ?_
    exact retV (res3 rfl (eqI (by rw [hfin])) (eqI (by rw [hfin])) (eqB (by rw [hfin]))) hS.ext
set_option maxHeartbeats 2000000 in
/-- barrage/barrageref10.Able -/
theorem c_rAble {c : Crew} {cs : List Value} {kd m : Int} {w0 : World} (h : RCrew w0 cs c) : CV Try.prog 35 #[.agg cs.toArray, .int .i64 kd, .int .i64 m] w0 (.tuple #[.int .i64 (ableF c kd m).1, .int .i64 (ableF c kd m).2.1, .int .i64 (ableF c kd m).2.2]) := by
  obtain ⟨ov, kv, nv, rfl, hso, hsk, hsn, hrm⟩ := id h
  obtain ⟨a, cap, rfl, hcap, hmx, hel⟩ := id hso
  obtain ⟨an, cn, rfl, hncap, hnmx, -⟩ := id hsn
  refine enter Try.func35 rfl Try.ntmps35 rfl ?_
  have hS := St.start w0
  refine seq ?_
  refine region ?_
  refine sbox hS rfl rfl ?_; clear hS; intro b3 w hS
  refine sv (yAsg rfl) ?_
  refine sv (yAsg rfl) ?_
  refine sv (yAsg rfl) ?_
  refine nil ?_
  show Code.wp _ _ _ _ _
  refine seq ?_
  refine region ?_
  refine sv (yLdBA rfl Try.isAgg26 Try.sizeOf26 (hS.at _) rfl rfl) ?_
  refine scall Try.call32 (.cons rfl .nil) (c_rCheck (h.ext hS.ext)) ?_
  rintro _ w ⟨rfl, hE⟩; replace hS := hS.step hE; clear hE
  refine sv (yMove rfl) ?_
  refine sv (yExt rfl rfl) ?_
  refine sv (yExt rfl rfl) ?_
  refine sv (yExt rfl rfl) ?_
  refine sv (yAsg rfl) ?_
  refine sv (yAsg rfl) ?_
  refine sv (yAsg rfl) ?_
  refine nil ?_
  show Code.wp _ _ _ _ _
  refine seqJ (n := 54) (fun f w => f 1 = .int .i64 kd ∧ f 2 = .int .i64 m ∧ f 3 = .pointer (some ⟨b3, 0, none⟩) ∧ f 11 = .int .i64 (ableE1 c kd) ∧ StX [] w0 w [blk b3 [.slice a c.ops.length cap, kv, .slice an c.kinds.length cn] 26] ∧ True) ?_ ?_
  ·
    refine seq ?_
    refine region ?_
    refine sv (yMove rfl) ?_
    refine sv (yEql rfl rfl) ?_
    refine sv (yMove rfl) ?_
    refine sg rfl rfl rfl (fun g => (yMove rfl)) (fun v24 g24 => ?_)
    refine sg rfl rfl rfl (fun g => (fa26_2 rfl)) (fun v25 g25 => ?_)
    refine sg rfl rfl rfl (fun g => (yLdB (g25.1 g) Try.isAgg24 (hS.at _) rfl)) (fun v26 g26 => ?_)
    refine sg rfl rfl rfl (fun g => (yLen (g26.1 g) Try.underlying24)) (fun v27 g27 => ?_)
    refine sg rfl rfl rfl (fun g => (ySub (g27.1 g) rfl ⟨by omega, by omega⟩)) (fun v28 g28 => ?_)
    refine sgc hS rfl rfl rfl Try.call54 (fun g => (.cons (g24.1 g) (.cons rfl (.cons (g28.1 g) .nil)))) (fun g => c_in) ?_; clear hS; intro v29 w hS g29
    refine sg rfl rfl rfl (fun g => (yNot (g29.1 g))) (fun v30 g30 => ?_)
    refine sv (yAnd rfl (fun hB => (g30.1 hB)) rfl) ?_
    refine nil ?_
    show Code.wp _ _ _ _ _
    refine cond rfl (fun c31 => ?_) (fun c31 => ?_)
    ·
      refine region ?_
      refine sv (yAsg rfl) ?_
      refine nil ?_
      exact ⟨_, rfl, rfl, rfl, rfl, rfl.trans (congrArg (Value.int .i64) (ableE1_yes c31).symm), hS, trivial⟩
    ·
      refine skip ?_
      exact ⟨_, rfl, rfl, rfl, rfl, rfl.trans (congrArg (Value.int .i64) (ableE1_no c31).symm), hS, trivial⟩
  ·
    clear hS; rintro f w ⟨h1, h2, h3, h11, hS, -⟩
    refine seqJ (n := 54) (fun f w => f 1 = .int .i64 kd ∧ f 2 = .int .i64 m ∧ f 3 = .pointer (some ⟨b3, 0, none⟩) ∧ f 11 = .int .i64 (ableE c kd m) ∧ StX [] w0 w [blk b3 [.slice a c.ops.length cap, kv, .slice an c.kinds.length cn] 26] ∧ True) ?_ ?_
    ·
      refine seq ?_
      refine region ?_
      refine sv (yMove h11) ?_
      refine sv (yEql rfl rfl) ?_
      refine sv (yMove rfl) ?_
      refine sg rfl rfl rfl (fun g => (yMove h2)) (fun v35 g35 => ?_)
      refine sgc hS rfl rfl rfl Try.call46 (fun g => (.cons (g35.1 g) .nil)) (fun g => c_rminute) ?_; clear hS; intro v36 w hS g36
      refine sg rfl rfl rfl (fun g => (yNot (g36.1 g))) (fun v37 g37 => ?_)
      refine sv (yAnd rfl (fun hB => (g37.1 hB)) rfl) ?_
      refine nil ?_
      show Code.wp _ _ _ _ _
      refine cond rfl (fun c38 => ?_) (fun c38 => ?_)
      ·
        refine region ?_
        refine sv (yAsg rfl) ?_
        refine nil ?_
        exact ⟨_, rfl, h1, h2, h3, rfl.trans (congrArg (Value.int .i64) (ableE2_yes c38).symm), hS, trivial⟩
      ·
        refine skip ?_
        exact ⟨_, rfl, h1, h2, h3, h11.trans (congrArg (Value.int .i64) (ableE2_no c38).symm), hS, trivial⟩
    ·
      clear hS; rintro f w ⟨h1, h2, h3, h11, hS, -⟩
      refine seq ?_
      refine seq ?_
      refine region ?_
      refine sv (yMove h11) ?_
      refine sv (yNeq rfl rfl) ?_
      refine nil ?_
      show Code.wp _ _ _ _ _
      refine cond rfl (fun c40 => ?_) (fun c40 => ?_)
      ·
        refine seq ?_
        refine region ?_
        refine sv (yMove h11) ?_
        refine sv (yAsg rfl) ?_
        refine sv (yAsg rfl) ?_
        refine sv (yAsg rfl) ?_
        refine nil ?_
        show Code.wp _ _ _ _ _
        have hfin : ableF c kd m = (0, 0, ableE c kd m) := if_pos (of_decide_eq_true c40)
        refine wp_ret (thenR ?_)
        exact retV (res3 rfl (eqI (by rw [hfin])) (eqI (by rw [hfin])) (eqI (by rw [hfin]))) hS.ext
      ·
        refine skip ?_
        show Code.wp _ _ _ _ _
        refine seq ?_
        refine region ?_
        refine sv (yLdBA h3 Try.isAgg26 Try.sizeOf26 (hS.at _) rfl rfl) ?_
        refine sv (yMove h1) ?_
        refine sv (yMove h2) ?_
        have hE0 : ableE c kd m = 0 := by simpa using c40
        obtain ⟨hr1, -⟩ := ableE_in hE0
        refine scall Try.call72 (.cons rfl (.cons rfl (.cons rfl .nil))) (c_rable (h.ext hS.ext) hr1) ?_
        rintro _ w ⟨rfl, hE⟩; replace hS := hS.step hE; clear hE
        refine sv (yMove rfl) ?_
        refine sv (yExt rfl rfl) ?_
        refine sv (yExt rfl rfl) ?_
        refine sv (yExt rfl rfl) ?_
        refine sv (yAsg rfl) ?_
        refine sv (yAsg rfl) ?_
        refine sv (yAsg rfl) ?_
        refine nil ?_
        show Code.wp _ _ _ _ _
        refine seq ?_
        refine seq ?_
        refine region ?_
        refine sv (yMove rfl) ?_
        refine sv (yNot rfl) ?_
        refine nil ?_
        show Code.wp _ _ _ _ _
        refine cond rfl (fun c51 => ?_) (fun c51 => ?_)
        ·
          refine seq ?_
          refine region ?_
          refine sv (yAsg rfl) ?_
          refine sv (yAsg rfl) ?_
          refine sv (yAsg rfl) ?_
          refine nil ?_
          show Code.wp _ _ _ _ _
          have hfin : ableF c kd m = (0, 0, 9) := ableR_no hE0 (by simpa using c51)
          refine wp_ret (thenR ?_)
          exact retV (res3 rfl (eqI (by rw [hfin])) (eqI (by rw [hfin])) (eqI (by rw [hfin]))) hS.ext
        ·
          refine skip ?_
          show Code.wp _ _ _ _ _
          refine seq ?_
          refine region ?_
          refine sv (yMove rfl) ?_
          refine sv (yMove rfl) ?_
          refine sv (yAsg rfl) ?_
          refine sv (yAsg rfl) ?_
          refine sv (yAsg rfl) ?_
          refine nil ?_
          show Code.wp _ _ _ _ _
          have hfin := ableR_yes hE0 (show (ableR c kd m).2.2 = true by simpa using c51)
          refine wp_ret ?_
          exact retV (res3 rfl (eqI (by rw [hfin])) (eqI (by rw [hfin])) (eqI (by rw [hfin]))) hS.ext
end Go.Proofs.Ytghgnofilbnbaaa
/- part Ck39 -/
namespace Go.Proofs.Ytghgnofilbnbaaa
open Go Bx
set_option maxHeartbeats 4000000 in
/-- barrage/barragelaw10.CrewChecks -/
theorem w_CrewChecks {c : Crew} {cs xs : List Value} {x : Int × Int} {w0 : World} (h : RCrew w0 cs c) (hx : RTwoI w0 xs x) : CV Try.prog 11 #[.agg cs.toArray, .agg xs.toArray] w0 (.bool true) := by
  obtain ⟨ov, kv, nv, rfl, hso, hsk, hsn, hrm⟩ := id h
  obtain ⟨a, cap, rfl, hcap, hmx, hel⟩ := id hso
  obtain ⟨who, m⟩ := x
  obtain ⟨rfl, hx1, hx2⟩ := id hx
  refine enter Try.func11 rfl Try.ntmps11 rfl ?_
  have hS := St.start w0
  refine seq ?_
  refine region ?_
  refine sbox hS rfl rfl ?_; clear hS; intro b2 w hS
  refine sbox hS rfl rfl ?_; clear hS; intro b3 w hS
  refine sv (yAsg rfl) ?_
  refine nil ?_
  show Code.wp _ _ _ _ _
  refine seq ?_
  refine region ?_
  refine sv (yLdBA rfl Try.isAgg26 Try.sizeOf26 (hS.at _) rfl rfl) ?_
  refine scall Try.call28 (.cons rfl .nil) (c_CheckC (h.ext hS.ext)) ?_
  rintro _ w ⟨rfl, hE⟩; replace hS := hS.step hE; clear hE
  refine sv (yMove rfl) ?_
  refine sv (yExt rfl rfl) ?_
  refine sv (yExt rfl rfl) ?_
  refine sv (yExt rfl rfl) ?_
  refine sv (yAsg rfl) ?_
  refine sv (yAsg rfl) ?_
  refine sv (yAsg rfl) ?_
  refine nil ?_
  show Code.wp _ _ _ _ _
  refine seq ?_
  refine region ?_
  refine sv (yLdBA rfl Try.isAgg26 Try.sizeOf26 (hS.at _) rfl rfl) ?_
  refine scall Try.call32 (.cons rfl .nil) (c_rCheck (h.ext hS.ext)) ?_
  rintro _ w ⟨rfl, hE⟩; replace hS := hS.step hE; clear hE
  refine sv (yMove rfl) ?_
  refine sv (yExt rfl rfl) ?_
  refine sv (yExt rfl rfl) ?_
  refine sv (yExt rfl rfl) ?_
  refine sv (yAsg rfl) ?_
  refine sv (yAsg rfl) ?_
  refine sv (yAsg rfl) ?_
  refine nil ?_
  show Code.wp _ _ _ _ _
  refine seq ?_
  refine seq ?_
  refine region ?_
  refine sv (yMove rfl) ?_
  refine sv (yMove rfl) ?_
  refine sv (yNeq rfl rfl) ?_
  refine sv (yMove rfl) ?_
  refine sg rfl rfl rfl (fun g => (yMove rfl)) (fun v29 g29 => ?_)
  refine sg rfl rfl rfl (fun g => (yMove rfl)) (fun v30 g30 => ?_)
  refine sg rfl rfl rfl (fun g => (yNeq (g29.1 g) (g30.1 g))) (fun v31 g31 => ?_)
  refine sv (yOr rfl rfl (fun hB => (g31.1 hB))) ?_
  refine sv (yMove rfl) ?_
  refine sg rfl rfl rfl (fun g => (yMove rfl)) (fun v34 g34 => ?_)
  refine sg rfl rfl rfl (fun g => (yMove rfl)) (fun v35 g35 => ?_)
  refine sg rfl rfl rfl (fun g => (yNeq (g34.1 g) (g35.1 g))) (fun v36 g36 => ?_)
  refine sv (yOr rfl rfl (fun hB => (g36.1 hB))) ?_
  refine nil ?_
  show Code.wp _ _ _ _ _
  refine cond rfl (fun c37 => ?_) (fun c37 => ?_)
  ·
    skip
    exfalso
    simp at c37
  ·
    skip
    refine skip ?_
    show Code.wp _ _ _ _ _
    refine seq ?_
    refine region ?_
    refine sv (yLdBA rfl Try.isAgg26 Try.sizeOf26 (hS.at _) rfl rfl) ?_
    refine sv (yIxA rfl rfl Try.runUnderlying80 Try.sizeOf3 (by omega) (by omega)) ?_
    refine sv (yLdB rfl Try.isAgg3 (hS.at _) rfl) ?_
    refine sv (yIxA rfl rfl Try.runUnderlying80 Try.sizeOf3 (by omega) (by omega)) ?_
    refine sv (yLdB rfl Try.isAgg3 (hS.at _) rfl) ?_
    refine scall Try.call33 (.cons rfl (.cons rfl (.cons rfl .nil))) (c_On (h.ext hS.ext)) ?_
    rintro _ w ⟨rfl, hE⟩; replace hS := hS.step hE; clear hE
    refine sv (yMove rfl) ?_
    refine sv (yExt rfl rfl) ?_
    refine sv (yExt rfl rfl) ?_
    refine sv (yAsg rfl) ?_
    refine sv (yAsg rfl) ?_
    refine nil ?_
    show Code.wp _ _ _ _ _
    refine seq ?_
    refine region ?_
    refine sv (yLdBA rfl Try.isAgg26 Try.sizeOf26 (hS.at _) rfl rfl) ?_
    refine sv (yIxA rfl rfl Try.runUnderlying80 Try.sizeOf3 (by omega) (by omega)) ?_
    refine sv (yLdB rfl Try.isAgg3 (hS.at _) rfl) ?_
    refine sv (yIxA rfl rfl Try.runUnderlying80 Try.sizeOf3 (by omega) (by omega)) ?_
    refine sv (yLdB rfl Try.isAgg3 (hS.at _) rfl) ?_
    refine scall Try.call34 (.cons rfl (.cons rfl (.cons rfl .nil))) (c_rOn (h.ext hS.ext)) ?_
    rintro _ w ⟨rfl, hE⟩; replace hS := hS.step hE; clear hE
    refine sv (yMove rfl) ?_
    refine sv (yExt rfl rfl) ?_
    refine sv (yExt rfl rfl) ?_
    refine sv (yAsg rfl) ?_
    refine sv (yAsg rfl) ?_
    refine nil ?_
    show Code.wp _ _ _ _ _
    refine seq ?_
    refine seq ?_
    refine region ?_
    refine sv (yMove rfl) ?_
    refine sv (yMove rfl) ?_
    refine sv (yBNe rfl rfl Try.underlying4) ?_
    refine sv (yMove rfl) ?_
    refine sg rfl rfl rfl (fun g => (yMove rfl)) (fun v60 g60 => ?_)
    refine sg rfl rfl rfl (fun g => (yMove rfl)) (fun v61 g61 => ?_)
    refine sg rfl rfl rfl (fun g => (yNeq (g60.1 g) (g61.1 g))) (fun v62 g62 => ?_)
    refine sv (yOr rfl rfl (fun hB => (g62.1 hB))) ?_
    refine nil ?_
    show Code.wp _ _ _ _ _
    refine cond rfl (fun c63 => ?_) (fun c63 => ?_)
    ·
      skip
      exfalso
      simp at c63
    ·
      skip
      refine skip ?_
      show Code.wp _ _ _ _ _
      refine seq ?_
      refine region ?_
      refine sv (yLdBA rfl Try.isAgg26 Try.sizeOf26 (hS.at _) rfl rfl) ?_
      refine sv (yIxA rfl rfl Try.runUnderlying80 Try.sizeOf3 (by omega) (by omega)) ?_
      refine sv (yLdB rfl Try.isAgg3 (hS.at _) rfl) ?_
      refine sv (yIxA rfl rfl Try.runUnderlying80 Try.sizeOf3 (by omega) (by omega)) ?_
      refine sv (yLdB rfl Try.isAgg3 (hS.at _) rfl) ?_
      refine scall Try.call29 (.cons rfl (.cons rfl (.cons rfl .nil))) (c_Able (h.ext hS.ext)) ?_
      rintro _ w ⟨rfl, hE⟩; replace hS := hS.step hE; clear hE
      refine sv (yMove rfl) ?_
      refine sv (yExt rfl rfl) ?_
      refine sv (yExt rfl rfl) ?_
      refine sv (yExt rfl rfl) ?_
      refine sv (yAsg rfl) ?_
      refine sv (yAsg rfl) ?_
      refine sv (yAsg rfl) ?_
      refine nil ?_
      show Code.wp _ _ _ _ _
      refine seq ?_
      refine region ?_
      refine sv (yLdBA rfl Try.isAgg26 Try.sizeOf26 (hS.at _) rfl rfl) ?_
      refine sv (yIxA rfl rfl Try.runUnderlying80 Try.sizeOf3 (by omega) (by omega)) ?_
      refine sv (yLdB rfl Try.isAgg3 (hS.at _) rfl) ?_
      refine sv (yIxA rfl rfl Try.runUnderlying80 Try.sizeOf3 (by omega) (by omega)) ?_
      refine sv (yLdB rfl Try.isAgg3 (hS.at _) rfl) ?_
      refine scall Try.call35 (.cons rfl (.cons rfl (.cons rfl .nil))) (c_rAble (h.ext hS.ext)) ?_
      rintro _ w ⟨rfl, hE⟩; replace hS := hS.step hE; clear hE
      refine sv (yMove rfl) ?_
      refine sv (yExt rfl rfl) ?_
      refine sv (yExt rfl rfl) ?_
      refine sv (yExt rfl rfl) ?_
      refine sv (yAsg rfl) ?_
      refine sv (yAsg rfl) ?_
      refine sv (yAsg rfl) ?_
      refine nil ?_
      show Code.wp _ _ _ _ _
      refine seq ?_
      refine region ?_
      refine sv (yMove rfl) ?_
      refine sv (yMove rfl) ?_
      refine sv (yEql rfl rfl) ?_
      refine sv (yMove rfl) ?_
      refine sg rfl rfl rfl (fun g => (yMove rfl)) (fun v88 g88 => ?_)
      refine sg rfl rfl rfl (fun g => (yMove rfl)) (fun v89 g89 => ?_)
      refine sg rfl rfl rfl (fun g => (yEql (g88.1 g) (g89.1 g))) (fun v90 g90 => ?_)
      refine sv (yAnd rfl (fun hB => (g90.1 hB)) rfl) ?_
      refine sv (yMove rfl) ?_
      refine sg rfl rfl rfl (fun g => (yMove rfl)) (fun v93 g93 => ?_)
      refine sg rfl rfl rfl (fun g => (yMove rfl)) (fun v94 g94 => ?_)
      refine sg rfl rfl rfl (fun g => (yEql (g93.1 g) (g94.1 g))) (fun v95 g95 => ?_)
      refine sv (yAnd rfl (fun hB => (g95.1 hB)) rfl) ?_
      refine sv (yMove rfl) ?_
      refine sgc hS rfl rfl rfl Try.call18 (fun g => .nil) (fun g => c_Awake) ?_; clear hS; intro v98 w hS g98
      refine sv (yAnd rfl (fun hB => (g98.1 hB)) rfl) ?_
      refine sv (yAsg rfl) ?_
      refine nil ?_
      show Code.wp _ _ _ _ _
      refine wp_ret ?_
      exact retV (res1 rfl (eqB (by simp))) hS.ext
set_option maxHeartbeats 1000000 in
/-- barrage/barrageref10.step -/
theorem c_rstep {c : Crew} {cs : List Value} {i : Nat} {x : Stp} {w0 : World} (h : RCrew w0 cs c) (hi : i ≤ 1000) : CV Try.prog 55 #[.agg cs.toArray, .int .i64 (i : Int), .agg (stpC x).toArray] w0 (.int .i64 (stepE c i x)) := by
  obtain ⟨ov, kv, nv, rfl, hso, hsk, hsn, hrm⟩ := id h
  obtain ⟨a, cap, rfl, hcap, hmx, hel⟩ := id hso
  obtain ⟨an, cn, rfl, hncap, hnmx, -⟩ := id hsn
  refine enter Try.func55 rfl Try.ntmps55 rfl ?_
  have hS := St.start w0
  refine seq ?_
  refine region ?_
  refine sbox hS rfl rfl ?_; clear hS; intro b3 w hS
  refine sbox hS rfl rfl ?_; clear hS; intro b5 w hS
  refine sv (yAsg rfl) ?_
  refine nil ?_
  show Code.wp _ _ _ _ _
  refine seq ?_
  refine seq ?_
  refine region ?_
  refine sv (fa89_0 rfl) ?_
  refine sv (yLdB rfl Try.isAgg3 (hS.at _) rfl) ?_
  refine sv (fa26_2 rfl) ?_
  refine sv (yLdB rfl Try.isAgg24 (hS.at _) rfl) ?_
  refine sv (yLen rfl Try.underlying24) ?_
  refine sv (ySub rfl rfl ⟨by omega, by omega⟩) ?_
  refine scall Try.call54 (.cons rfl (.cons rfl (.cons rfl .nil))) c_in ?_
  rintro _ w ⟨rfl, hE⟩; replace hS := hS.step hE; clear hE
  refine sv (yNot rfl) ?_
  refine nil ?_
  show Code.wp _ _ _ _ _
  refine cond rfl (fun c14 => ?_) (fun c14 => ?_)
  ·
    refine seq ?_
    refine region ?_
    refine sv (yAsg rfl) ?_
    refine nil ?_
    show Code.wp _ _ _ _ _
    refine wp_ret (thenR ?_)
    exact retV (res1 rfl (eqI (stepE_1 c14))) hS.ext
  ·
    refine skip ?_
    show Code.wp _ _ _ _ _
    refine seq ?_
    refine seq ?_
    refine region ?_
    refine sv (fa89_1 rfl) ?_
    refine sv (yLdB rfl Try.isAgg3 (hS.at _) rfl) ?_
    refine scall Try.call54 (.cons rfl (.cons rfl (.cons rfl .nil))) c_in ?_
    rintro _ w ⟨rfl, hE⟩; replace hS := hS.step hE; clear hE
    refine sv (yNot rfl) ?_
    refine nil ?_
    show Code.wp _ _ _ _ _
    refine cond rfl (fun c18 => ?_) (fun c18 => ?_)
    ·
      refine seq ?_
      refine region ?_
      refine sv (yAsg rfl) ?_
      refine nil ?_
      show Code.wp _ _ _ _ _
      refine wp_ret (thenR ?_)
      exact retV (res1 rfl (eqI (stepE_2 c14 c18))) hS.ext
    ·
      refine skip ?_
      show Code.wp _ _ _ _ _
      refine seq ?_
      refine seq ?_
      refine region ?_
      refine sv (fa89_2 rfl) ?_
      refine sv (yLdB rfl Try.isAgg3 (hS.at _) rfl) ?_
      refine sv (yMove rfl) ?_
      refine sv (ySub rfl rfl ⟨by omega, by omega⟩) ?_
      refine scall Try.call54 (.cons rfl (.cons rfl (.cons rfl .nil))) c_in ?_
      rintro _ w ⟨rfl, hE⟩; replace hS := hS.step hE; clear hE
      refine sv (yNot rfl) ?_
      refine nil ?_
      show Code.wp _ _ _ _ _
      refine cond rfl (fun c24 => ?_) (fun c24 => ?_)
      ·
        refine seq ?_
        refine region ?_
        refine sv (yAsg rfl) ?_
        refine nil ?_
        show Code.wp _ _ _ _ _
        refine wp_ret (thenR ?_)
        exact retV (res1 rfl (eqI (stepE_3 c14 c18 c24))) hS.ext
      ·
        refine skip ?_
        show Code.wp _ _ _ _ _
        refine seq ?_
        refine seq ?_
        refine region ?_
        refine sv (fa89_4 rfl) ?_
        refine sv (yLdB rfl Try.isAgg3 (hS.at _) rfl) ?_
        refine scall Try.call54 (.cons rfl (.cons rfl (.cons rfl .nil))) c_in ?_
        rintro _ w ⟨rfl, hE⟩; replace hS := hS.step hE; clear hE
        refine sv (yNot rfl) ?_
        refine sv (yMove rfl) ?_
        refine sg rfl rfl rfl (fun g => (fa89_3 rfl)) (fun v30 g30 => ?_)
        refine sg rfl rfl rfl (fun g => (yLdB (g30.1 g) Try.isAgg3 (hS.at _) rfl)) (fun v31 g31 => ?_)
        refine sg rfl rfl rfl (fun g => (fa89_4 rfl)) (fun v32 g32 => ?_)
        refine sg rfl rfl rfl (fun g => (yLdB (g32.1 g) Try.isAgg3 (hS.at _) rfl)) (fun v33 g33 => ?_)
        refine sgc hS rfl rfl rfl Try.call54 (fun g => (.cons (g31.1 g) (.cons rfl (.cons (g33.1 g) .nil)))) (fun g => c_in) ?_; clear hS; intro v34 w hS g34
        refine sg rfl rfl rfl (fun g => (yNot (g34.1 g))) (fun v35 g35 => ?_)
        refine sv (yOr rfl rfl (fun hB => (g35.1 hB))) ?_
        refine nil ?_
        show Code.wp _ _ _ _ _
        refine cond rfl (fun c36 => ?_) (fun c36 => ?_)
        ·
          refine seq ?_
          refine region ?_
          refine sv (yAsg rfl) ?_
          refine nil ?_
          show Code.wp _ _ _ _ _
          refine wp_ret (thenR ?_)
          exact retV (res1 rfl (eqI (stepE_4 c14 c18 c24 c36))) hS.ext
        ·
          refine skip ?_
          show Code.wp _ _ _ _ _
          refine seq ?_
          refine region ?_
          refine sv (yAsg rfl) ?_
          refine nil ?_
          show Code.wp _ _ _ _ _
          refine wp_ret ?_
          exact retV (res1 rfl (eqI (stepE_0 c14 c18 c24 c36))) hS.ext
set_option maxHeartbeats 1000000 in
/-- barrage/barrageref10.CheckScript -/
theorem c_rCheckScript {c : Crew} {cs ss : List Value} {s : Scr} {w0 : World} (h : RCrew w0 cs c) (hs : RScr w0 ss s) : CV Try.prog 24 #[.agg cs.toArray, .agg ss.toArray] w0 (.tuple #[.int .i64 (scriptF c s).1, .int .i64 (scriptF c s).2]) := by
  obtain ⟨ov, kv, nv, rfl, hso, hsk, hsn, hrm⟩ := id h
  obtain ⟨a, cap, rfl, hcap, hmx, hel⟩ := id hso
  obtain ⟨sv, rfl, hsz, hst⟩ := id hs
  obtain ⟨ax, cps, rfl, hscap, hsmx, hels⟩ := id hst
  refine enter Try.func24 rfl Try.ntmps24 rfl ?_
  have hS := St.start w0
  refine seq ?_
  refine region ?_
  refine sbox hS rfl rfl ?_; clear hS; intro b2 w hS
  refine sbox hS rfl rfl ?_; clear hS; intro b3 w hS
  refine sv (yAsg rfl) ?_
  refine sv (yAsg rfl) ?_
  refine nil ?_
  show Code.wp _ _ _ _ _
  refine seq ?_
  refine region ?_
  refine sv (yLdBA rfl Try.isAgg26 Try.sizeOf26 (hS.at _) rfl rfl) ?_
  refine scall Try.call32 (.cons rfl .nil) (c_rCheck (h.ext hS.ext)) ?_
  rintro _ w ⟨rfl, hE⟩; replace hS := hS.step hE; clear hE
  refine sv (yMove rfl) ?_
  refine sv (yExt rfl rfl) ?_
  refine sv (yExt rfl rfl) ?_
  refine sv (yExt rfl rfl) ?_
  refine sv (yAsg rfl) ?_
  refine sv (yAsg rfl) ?_
  refine sv (yAsg rfl) ?_
  refine nil ?_
  show Code.wp _ _ _ _ _
  refine seq ?_
  refine seq ?_
  refine region ?_
  refine sv (yMove rfl) ?_
  refine sv (yNeq rfl rfl) ?_
  refine nil ?_
  show Code.wp _ _ _ _ _
  refine cond rfl (fun c18 => ?_) (fun c18 => ?_)
  ·
    simp only [Bool.and_eq_true, Bool.or_eq_true, Bool.and_eq_false_iff, Bool.or_eq_false_iff, decide_eq_true_eq, decide_eq_false_iff_not, Bool.not_eq_true, Bool.not_eq_false, Bool.not_not, Bool.not_eq_eq_eq_not, Bool.not_true, Bool.not_false, Bool.false_eq_true, Bool.true_eq_false, ne_eq, Decidable.not_not, not_false_eq_true, not_true_eq_false] at c18
    refine seq ?_
    refine region ?_
    refine sv (yMove rfl) ?_
    refine sv (yAsg rfl) ?_
    refine sv (yAsg rfl) ?_
    refine nil ?_
    show Code.wp _ _ _ _ _
    have hfin := scriptF_1 (s := s) c18
    refine wp_ret (thenR ?_)
    exact retV (res2 rfl (eqI (by rw [hfin])) (eqI (by rw [hfin]))) hS.ext
  ·
    simp only [Bool.and_eq_true, Bool.or_eq_true, Bool.and_eq_false_iff, Bool.or_eq_false_iff, decide_eq_true_eq, decide_eq_false_iff_not, Bool.not_eq_true, Bool.not_eq_false, Bool.not_not, Bool.not_eq_eq_eq_not, Bool.not_true, Bool.not_false, Bool.false_eq_true, Bool.true_eq_false, ne_eq, Decidable.not_not, not_false_eq_true, not_true_eq_false] at c18
    refine skip ?_
    show Code.wp _ _ _ _ _
    refine seq ?_
    refine seq ?_
    refine region ?_
    refine sv (fa29_0 rfl) ?_
    refine sv (yLdB rfl Try.isAgg9 (hS.at _) rfl) ?_
    refine scall Try.call53 (.cons rfl .nil) (c_rName hsz) ?_
    rintro _ w ⟨rfl, hE⟩; replace hS := hS.step hE; clear hE
    refine sv (yNot rfl) ?_
    refine nil ?_
    show Code.wp _ _ _ _ _
    refine cond rfl (fun c23 => ?_) (fun c23 => ?_)
    ·
      refine seq ?_
      refine region ?_
      refine sv (yAsg rfl) ?_
      refine sv (yAsg rfl) ?_
      refine nil ?_
      show Code.wp _ _ _ _ _
      have hfin := scriptF_2 c18 c23
      refine wp_ret (thenR ?_)
      exact retV (res2 rfl (eqI (by rw [hfin])) (eqI (by rw [hfin]))) hS.ext
    ·
      refine skip ?_
      show Code.wp _ _ _ _ _
      refine seq ?_
      refine seq ?_
      refine region ?_
      refine sv (fa29_1 rfl) ?_
      refine sv (yLdB rfl Try.isAgg27 (hS.at _) rfl) ?_
      refine sv (yLen rfl Try.underlying27) ?_
      refine scall Try.call54 (.cons rfl (.cons rfl (.cons rfl .nil))) c_in ?_
      rintro _ w ⟨rfl, hE⟩; replace hS := hS.step hE; clear hE
      refine sv (yNot rfl) ?_
      refine nil ?_
      show Code.wp _ _ _ _ _
      refine cond rfl (fun c28 => ?_) (fun c28 => ?_)
      ·
        refine seq ?_
        refine region ?_
        refine sv (yAsg rfl) ?_
        refine sv (yAsg rfl) ?_
        refine nil ?_
        show Code.wp _ _ _ _ _
        have hfin := scriptF_3 c18 c23 c28
        refine wp_ret (thenR ?_)
        exact retV (res2 rfl (eqI (by rw [hfin])) (eqI (by rw [hfin]))) hS.ext
      ·
        have hfin0 := scriptF_4 c18 c23 c28
        have hle : 1 ≤ (s.steps.length : Int) ∧ (s.steps.length : Int) ≤ 10 := by have := c28; rw [inB_not, outB_false] at this; exact this
        refine skip ?_
        show Code.wp _ _ _ _ _
        refine seq ?_
        refine seq ?_
        refine region ?_
        refine sv (yAsg rfl) ?_
        refine nil ?_
        show Code.wp _ _ _ _ _
        refine block ?_
        refine loop (fun f w zz => ∃ (k : Nat), f 2 = .pointer (some ⟨b2, 0, none⟩) ∧ f 3 = .pointer (some ⟨b3, 0, none⟩) ∧ f 9 = .int .i64 (k : Int) ∧ StX [] w0 w [blk b3 [.string s.name, .slice ax s.steps.length cps] 29, blk b2 [.slice a c.ops.length cap, kv, nv] 26] ∧ (k ≤ s.steps.length) ∧ (firstS c s.steps 0 = firstS c (s.steps.drop k) k) ∧ zz = s.steps.length - k) _ ⟨_, rfl, 0, rfl, rfl, rfl, hS, (Nat.zero_le _), (rfl), rfl⟩ ?_
        clear hS
        rintro f w _ ⟨k, h2, h3, h9, hS, hk, hF, rfl⟩
        refine seq ?_
        refine seq ?_
        refine region ?_
        refine sv (yMove h9) ?_
        refine sv (fa29_1 h3) ?_
        refine sv (yLdB rfl Try.isAgg27 (hS.at _) rfl) ?_
        refine sv (yLen rfl Try.underlying27) ?_
        refine sv (yLss rfl rfl) ?_
        refine nil ?_
        show Code.wp _ _ _ _ _
        refine cond rfl (fun c33 => ?_) (fun c33 => ?_)
        ·
          simp only [Bool.and_eq_true, Bool.or_eq_true, Bool.and_eq_false_iff, Bool.or_eq_false_iff, decide_eq_true_eq, decide_eq_false_iff_not, Bool.not_eq_true, Bool.not_eq_false, Bool.not_not, Bool.not_eq_eq_eq_not, Bool.not_true, Bool.not_false, Bool.false_eq_true, Bool.true_eq_false, ne_eq, Decidable.not_not, not_false_eq_true, not_true_eq_false] at c33
          refine skip ?_
          show Code.wp _ _ _ _ _
          refine seq ?_
          refine block ?_
          refine seq ?_
          refine region_draw mixed (by kernel_rfl) hS ?_
          obtain ⟨x, hxq, hdq⟩ := drop_of (l := s.steps) (k := k) (by omega)
          obtain ⟨bq, oq, csq, haq, hlenq, hcsq, hRq⟩ := hels (k) (by omega)
          obtain rfl : x = s.steps[k] := (List.getElem?_eq_some_iff.1 hxq).2.symm
          generalize s.steps[k] = x at hxq hdq hRq
          obtain ⟨rfl, hxi⟩ := hRq
          refine qv (fun w hS => (yLdBA h2 Try.isAgg26 Try.sizeOf26 (hS.at _) rfl rfl)) ?_
          refine qv (fun w hS => (yMove h9)) ?_
          refine qv (fun w hS => (fa29_1 h3)) ?_
          refine qv (fun w hS => (yLdB rfl Try.isAgg27 (hS.at _) rfl)) ?_
          refine qv (fun w hS => (yMove h9)) ?_
          refine qv (fun w hS => (yIxa rfl haq rfl Try.runUnderlying27 Try.sizeOf89 (by omega) (by omega))) ?_
          refine qv (fun w hS => (yLdA rfl Try.isAgg89 Try.sizeOf89 (hcsq.ext hS.ext) rfl)) ?_
          refine qcall Try.call55 (.cons rfl (.cons rfl (.cons rfl .nil))) (fun w hS => (c_rstep (h.ext hS.ext) (by omega))) ?_
          refine qv (fun w hS => (yAsg rfl)) ?_
          clear hS; refine qnil (fun w hS => ?_)
          show Code.wp _ _ _ _ _
          refine seq ?_
          refine region ?_
          refine sv (yMove rfl) ?_
          refine sv (yNeq rfl rfl) ?_
          refine nil ?_
          show Code.wp _ _ _ _ _
          refine cond rfl (fun c45 => ?_) (fun c45 => ?_)
          ·
            simp only [Bool.and_eq_true, Bool.or_eq_true, Bool.and_eq_false_iff, Bool.or_eq_false_iff, decide_eq_true_eq, decide_eq_false_iff_not, Bool.not_eq_true, Bool.not_eq_false, Bool.not_not, Bool.not_eq_eq_eq_not, Bool.not_true, Bool.not_false, Bool.false_eq_true, Bool.true_eq_false, ne_eq, Decidable.not_not, not_false_eq_true, not_true_eq_false] at c45
            refine seq ?_
            refine region ?_
            refine sv (yMove h9) ?_
            refine sv (yMove rfl) ?_
            refine sv (yAsg rfl) ?_
            refine sv (yAsg rfl) ?_
            refine nil ?_
            show Code.wp _ _ _ _ _
            have hfin : scriptF c s = ((k : Int), stepE c k x) := by rw [hfin0, hF, firstS_hit hdq c45]
            refine wp_ret (blockR (thenR (thenR (blockR (thenR ?_)))))
            exact retV (res2 rfl (eqI (by rw [hfin])) (eqI (by rw [hfin]))) hS.ext
          ·
            simp only [Bool.and_eq_true, Bool.or_eq_true, Bool.and_eq_false_iff, Bool.or_eq_false_iff, decide_eq_true_eq, decide_eq_false_iff_not, Bool.not_eq_true, Bool.not_eq_false, Bool.not_not, Bool.not_eq_eq_eq_not, Bool.not_true, Bool.not_false, Bool.false_eq_true, Bool.true_eq_false, ne_eq, Decidable.not_not, not_false_eq_true, not_true_eq_false] at c45
            refine skip ?_
            show Code.wp _ _ _ _ _
            refine region ?_
            refine sv (yMove h9) ?_
            refine sv (yAdd rfl rfl ⟨by omega, by omega⟩) ?_
            refine sv (yAsg rfl) ?_
            refine nil ?_
            exact ⟨_, _, rfl, ⟨k + 1, h2, h3, rfl, hS, (by omega), (by rw [hF, firstS_drop hdq c45]), rfl⟩, by omega⟩
        ·
          simp only [Bool.and_eq_true, Bool.or_eq_true, Bool.and_eq_false_iff, Bool.or_eq_false_iff, decide_eq_true_eq, decide_eq_false_iff_not, Bool.not_eq_true, Bool.not_eq_false, Bool.not_not, Bool.not_eq_eq_eq_not, Bool.not_true, Bool.not_false, Bool.false_eq_true, Bool.true_eq_false, ne_eq, Decidable.not_not, not_false_eq_true, not_true_eq_false] at c33
          refine exit ?_
          show Code.wp _ _ _ _ _
          refine seq ?_
          refine region ?_
          refine sv (yAsg rfl) ?_
          refine sv (yAsg rfl) ?_
          refine nil ?_
          show Code.wp _ _ _ _ _
          have hfin : scriptF c s = (0, 0) := by rw [hfin0, hF, List.drop_of_length_le (by omega)]; rfl
          refine wp_ret ?_
          exact retV (res2 rfl (eqI (by rw [hfin])) (eqI (by rw [hfin]))) hS.ext
set_option maxHeartbeats 4000000 in
/-- barrage/barrageref10.Windows -/
theorem c_rWindows {c : Crew} {cs ss : List Value} {s : Scr} {w0 : World} (h : RCrew w0 cs c) (hs : RScr w0 ss s) : CE Try.prog 26 #[.agg cs.toArray, .agg ss.toArray] w0 (fun u w' => ∃ lv, u = .tuple #[lv, .int .i64 (scriptF c s).2] ∧ St w0 w' [rowI lv 86 2 (winF c s).length ((winF c s).flatMap pC)]) := by
  obtain ⟨ov, kv, nv, rfl, hso, hsk, hsn, hrm⟩ := id h
  obtain ⟨a, cap, rfl, hcap, hmx, hel⟩ := id hso
  obtain ⟨sv, rfl, hsz, hst⟩ := id hs
  obtain ⟨ax, cps, rfl, hscap, hsmx, hels⟩ := id hst
  refine enter Try.func26 rfl Try.ntmps26 rfl ?_
  have hS := St.start w0
  refine seq ?_
  refine region ?_
  refine sbox hS rfl rfl ?_; clear hS; intro b2 w hS
  refine sbox hS rfl rfl ?_; clear hS; intro b3 w hS
  refine sv (yAsg rfl) ?_
  refine sv (yAsg rfl) ?_
  refine nil ?_
  show Code.wp _ _ _ _ _
  refine seq ?_
  refine region ?_
  refine sv (yLdBA rfl Try.isAgg26 Try.sizeOf26 (hS.at _) rfl rfl) ?_
  refine sv (yLdBA rfl Try.isAgg29 Try.sizeOf29 (hS.at _) rfl rfl) ?_
  refine scall Try.call24 (.cons rfl (.cons rfl .nil)) (c_rCheckScript (h.ext hS.ext) (hs.ext hS.ext)) ?_
  rintro _ w ⟨rfl, hE⟩; replace hS := hS.step hE; clear hE
  refine sv (yMove rfl) ?_
  refine sv (yExt rfl rfl) ?_
  refine sv (yExt rfl rfl) ?_
  refine sv (yAsg rfl) ?_
  refine sv (yAsg rfl) ?_
  refine nil ?_
  show Code.wp _ _ _ _ _
  refine seq ?_
  refine seq ?_
  refine region ?_
  refine sv (yMove rfl) ?_
  refine sv (yNeq rfl rfl) ?_
  refine nil ?_
  show Code.wp _ _ _ _ _
  refine cond rfl (fun c19 => ?_) (fun c19 => ?_)
  ·
    simp only [Bool.and_eq_true, Bool.or_eq_true, Bool.and_eq_false_iff, Bool.or_eq_false_iff, decide_eq_true_eq, decide_eq_false_iff_not, Bool.not_eq_true, Bool.not_eq_false, Bool.not_not, Bool.not_eq_eq_eq_not, Bool.not_true, Bool.not_false, Bool.false_eq_true, Bool.true_eq_false, ne_eq, Decidable.not_not, not_false_eq_true, not_true_eq_false] at c19
    refine seq ?_
    refine region ?_
    refine sv (yMove rfl) ?_
    refine sv (yAsg rfl) ?_
    refine sv (yAsg rfl) ?_
    refine nil ?_
    show Code.wp _ _ _ _ _
    refine wp_ret (thenR ?_)
    refine retQ (res2 rfl rfl rfl) ?_
    exact ⟨_, rfl, by rw [winF_bad c19]; exact (hS.nilrow 86 2).sub (.cons_cons _ (List.nil_sublist _))⟩
  ·
    simp only [Bool.and_eq_true, Bool.or_eq_true, Bool.and_eq_false_iff, Bool.or_eq_false_iff, decide_eq_true_eq, decide_eq_false_iff_not, Bool.not_eq_true, Bool.not_eq_false, Bool.not_not, Bool.not_eq_eq_eq_not, Bool.not_true, Bool.not_false, Bool.false_eq_true, Bool.true_eq_false, ne_eq, Decidable.not_not, not_false_eq_true, not_true_eq_false] at c19
    have hok := scrOk_of c19
    have hlen := hok.len
    refine skip ?_
    show Code.wp _ _ _ _ _
    refine seq ?_
    refine region ?_
    refine sv (yAsg rfl) ?_
    refine nil ?_
    show Code.wp _ _ _ _ _
    refine seq ?_
    refine seq ?_
    refine region ?_
    refine sv (yAsg rfl) ?_
    refine nil ?_
    show Code.wp _ _ _ _ _
    refine block ?_
    refine loop (fun f w zz => ∃ (k : Nat) (lv : Value), f 3 = .pointer (some ⟨b3, 0, none⟩) ∧ f 8 = lv ∧ f 9 = .int .i64 (k : Int) ∧ StX [] w0 w [rowI lv 86 2 k ((winL (s.steps.take k)).flatMap pC), blk b3 [.string s.name, .slice ax s.steps.length cps] 29, blk b2 [.slice a c.ops.length cap, kv, nv] 26] ∧ (k ≤ s.steps.length) ∧ zz = s.steps.length - k) _ ⟨_, rfl, 0, _, rfl, rfl, rfl, (hS.nilrow 86 2), (Nat.zero_le _), rfl⟩ ?_
    clear hS
    rintro f w _ ⟨k, lv, h3, h8, h9, hS, hk, rfl⟩
    refine seq ?_
    refine seq ?_
    refine region ?_
    refine sv (yMove h9) ?_
    refine sv (fa29_1 h3) ?_
    refine sv (yLdB rfl Try.isAgg27 (hS.at _) rfl) ?_
    refine sv (yLen rfl Try.underlying27) ?_
    refine sv (yLss rfl rfl) ?_
    refine nil ?_
    show Code.wp _ _ _ _ _
    refine cond rfl (fun c25 => ?_) (fun c25 => ?_)
    ·
      simp only [Bool.and_eq_true, Bool.or_eq_true, Bool.and_eq_false_iff, Bool.or_eq_false_iff, decide_eq_true_eq, decide_eq_false_iff_not, Bool.not_eq_true, Bool.not_eq_false, Bool.not_not, Bool.not_eq_eq_eq_not, Bool.not_true, Bool.not_false, Bool.false_eq_true, Bool.true_eq_false, ne_eq, Decidable.not_not, not_false_eq_true, not_true_eq_false] at c25
      refine skip ?_
      show Code.wp _ _ _ _ _
      refine seq ?_
      refine block ?_
      refine seq ?_
      refine region ?_
      obtain ⟨x, hxq, hdq⟩ := drop_of (l := s.steps) (k := k) (by omega)
      obtain ⟨bq, oq, csq, haq, hlenq, hcsq, hRq⟩ := hels (k) (by omega)
      obtain rfl : x = s.steps[k] := (List.getElem?_eq_some_iff.1 hxq).2.symm
      generalize s.steps[k] = x at hxq hdq hRq
      obtain ⟨rfl, hxi⟩ := hRq
      have hsx := hok.steps k x hxq
      have hx1 := hsx.after
      have hx2 := hsx.most
      have hx3 := hsx.least
      refine sv (fa29_1 h3) ?_
      refine sv (yLdB rfl Try.isAgg27 (hS.at _) rfl) ?_
      refine sv (yMove h9) ?_
      refine sv (yIxa rfl haq rfl Try.runUnderlying27 Try.sizeOf89 (by omega) (by omega)) ?_
      refine sv (yLdA rfl Try.isAgg89 Try.sizeOf89 (hcsq.ext hS.ext) rfl) ?_
      refine salloc hS Try.zeroValue89 rfl ?_; clear hS; intro b10 w hS
      refine sst hS rfl rfl Try.sizeOf89 rfl rfl rfl rfl ?_; clear hS; intro w hS
      refine nil ?_
      show Code.wp _ _ _ _ _
      refine seq ?_
      refine region ?_
      refine sv (yBuild Try.zeroValue86 rfl pl86 .nil rfl) ?_
      refine salloc hS Try.zeroValue86 rfl ?_; clear hS; intro b11 w hS
      refine sst hS rfl rfl Try.sizeOf86 rfl rfl rfl rfl ?_; clear hS; intro w hS
      refine nil ?_
      show Code.wp _ _ _ _ _
      refine seqJ (n := 57) (fun f w => ∃ (lv : Value) (y : Int × Int), f 3 = .pointer (some ⟨b3, 0, none⟩) ∧ f 8 = lv ∧ f 9 = .int .i64 (k : Int) ∧ f 10 = .pointer (some ⟨b10, 0, none⟩) ∧ f 11 = .pointer (some ⟨b11, 0, none⟩) ∧ StX [] w0 w [blk b11 (pC y) 86, blk b10 (stpC x) 89, rowI lv 86 2 k ((winL (s.steps.take k)).flatMap pC), blk b3 [.string s.name, .slice ax s.steps.length cps] 29, blk b2 [.slice a c.ops.length cap, kv, nv] 26] ∧ ((0 ≤ y.1 ∧ y.1 ≤ 240 * (k : Int)) ∧ 0 ≤ y.2 ∧ y.2 ≤ 240 * (k : Int)) ∧ (winS (winL (s.steps.take k)) x = (y.1 + x.least, y.2 + x.most)) ∧ True) ?_ ?_
      ·
        refine seq ?_
        refine region ?_
        replace hS : StX [] w0 w (blk b11 (pC ((0 : Int), (0 : Int))) 86 :: blk b10 (stpC x) 89 :: rowI lv 86 2 k ((winL (s.steps.take k)).flatMap pC) :: blk b3 [.string s.name, .slice ax s.steps.length cps] 29 :: blk b2 [.slice a c.ops.length cap, kv, nv] 26 :: []) := hS
        refine sv (fa89_2 rfl) ?_
        refine sv (yLdB rfl Try.isAgg3 (hS.at _) rfl) ?_
        refine sv (yGeq rfl rfl) ?_
        refine nil ?_
        show Code.wp _ _ _ _ _
        refine cond rfl (fun c36 => ?_) (fun c36 => ?_)
        ·
          simp only [Bool.and_eq_true, Bool.or_eq_true, Bool.and_eq_false_iff, Bool.or_eq_false_iff, decide_eq_true_eq, decide_eq_false_iff_not, Bool.not_eq_true, Bool.not_eq_false, Bool.not_not, Bool.not_eq_eq_eq_not, Bool.not_true, Bool.not_false, Bool.false_eq_true, Bool.true_eq_false, ne_eq, Decidable.not_not, not_false_eq_true, not_true_eq_false] at c36
          refine region ?_
          obtain ⟨g, chl, rfl, -⟩ := row_some (hS.row lv) (by omega)
          obtain ⟨q, hq⟩ := Int.eq_ofNat_of_zero_le c36
          obtain ⟨y, hy, -⟩ := drop_of (l := winL (s.steps.take k)) (k := q) (by rw [winL_len, List.length_take]; omega)
          have hyb := winL_bd hok.steps k (by omega) y (List.mem_of_getElem? hy)
          refine sv (yMove h8) ?_
          refine sv (fa89_2 rfl) ?_
          refine sv (yLdB rfl Try.isAgg3 (hS.at _) rfl) ?_
          refine sv (yIx0 rfl (rfl.trans (congrArg (Value.int .i64) hq)) Try.runUnderlying62 Try.sizeOf86 (by omega)) ?_
          refine sv (yLdA rfl Try.isAgg86 Try.sizeOf86 (flat_cells0 pC_len (row_at (hS.row (.slice (some ⟨g, 0, none⟩) k chl)) rfl (by omega)) hy) rfl) ?_
          refine sst hS rfl rfl Try.sizeOf86 rfl rfl rfl rfl ?_; clear hS; intro w hS
          refine nil ?_
          exact ⟨_, rfl, _, y, h3, h8, h9, rfl, rfl, hS, (hyb), (winS_ref hq hy), trivial⟩
        ·
          simp only [Bool.and_eq_true, Bool.or_eq_true, Bool.and_eq_false_iff, Bool.or_eq_false_iff, decide_eq_true_eq, decide_eq_false_iff_not, Bool.not_eq_true, Bool.not_eq_false, Bool.not_not, Bool.not_eq_eq_eq_not, Bool.not_true, Bool.not_false, Bool.false_eq_true, Bool.true_eq_false, ne_eq, Decidable.not_not, not_false_eq_true, not_true_eq_false] at c36
          refine skip ?_
          exact ⟨_, rfl, _, (0, 0), h3, h8, h9, rfl, rfl, hS, (by dsimp only; omega), (by rw [winS_no (by omega), Int.zero_add, Int.zero_add]), trivial⟩
      ·
        clear hS; rintro f w ⟨lv, y, h3, h8, h9, h10, h11, hS, hyb, hwin, -⟩
        refine region ?_
        refine sv (yMove h8) ?_
        refine sv (fa86_0 h11) ?_
        refine sv (yLdB rfl Try.isAgg3 (hS.at _) rfl) ?_
        refine sv (fa89_3 h10) ?_
        refine sv (yLdB rfl Try.isAgg3 (hS.at _) rfl) ?_
        refine sv (yAdd rfl rfl ⟨by omega, by omega⟩) ?_
        refine sv (fa86_1 h11) ?_
        refine sv (yLdB rfl Try.isAgg3 (hS.at _) rfl) ?_
        refine sv (fa89_4 h10) ?_
        refine sv (yLdB rfl Try.isAgg3 (hS.at _) rfl) ?_
        refine sv (yAdd rfl rfl ⟨by omega, by omega⟩) ?_
        refine sv (yBuild Try.zeroValue86 rfl pl86 (.cons rfl rfl (.cons rfl rfl .nil)) rfl) ?_
        refine sbslice hS Try.underlying62 Try.sizeOf86 rfl Try.zeroValue86 rfl (.cons rfl rfl .nil) rfl ?_; clear hS; intro b54 w hS
        refine sapp (bytes := 16) (size := 2) (v := lv) (m := 1) hS rfl rfl Try.underlying62 ti86 rfl rfl rfl rfl (by decide) (blk_cells (hS.at _)) rfl rfl (by omega) (by omega) ?_; clear hS; intro v55 w hS
        refine sv (yAsg rfl) ?_
        refine nil ?_
        show Code.wp _ _ _ _ _
        refine region ?_
        refine sv (yMove h9) ?_
        refine sv (yAdd rfl rfl ⟨by omega, by omega⟩) ?_
        refine sv (yAsg rfl) ?_
        refine nil ?_
        exact ⟨_, _, rfl, ⟨k + 1, v55, h3, rfl, rfl, (by rw [winL_take hxq, List.flatMap_append, hwin]; exact hS.sub (.cons _ (.cons _ (.cons _ (List.Sublist.refl _))))), (by omega), rfl⟩, by omega⟩
    ·
      simp only [Bool.and_eq_true, Bool.or_eq_true, Bool.and_eq_false_iff, Bool.or_eq_false_iff, decide_eq_true_eq, decide_eq_false_iff_not, Bool.not_eq_true, Bool.not_eq_false, Bool.not_not, Bool.not_eq_eq_eq_not, Bool.not_true, Bool.not_false, Bool.false_eq_true, Bool.true_eq_false, ne_eq, Decidable.not_not, not_false_eq_true, not_true_eq_false] at c25
      refine exit ?_
      show Code.wp _ _ _ _ _
      refine seq ?_
      refine region ?_
      refine sv (yMove h8) ?_
      refine sv (yAsg rfl) ?_
      refine sv (yAsg rfl) ?_
      refine nil ?_
      show Code.wp _ _ _ _ _
      refine wp_ret ?_
      refine retQ (res2 rfl rfl rfl) ?_
      obtain rfl : k = s.steps.length := by omega
      rw [List.take_length] at hS
      exact ⟨lv, by (rw [c19]; try rfl), by rw [winF_ok c19, winL_len]; exact hS.sub (.cons_cons _ (List.nil_sublist _))⟩
set_option maxHeartbeats 4000000 in
/-- barrage/barragelaw10.CrewScripts -/
theorem w_CrewScripts {c : Crew} {cs ss : List Value} {s : Scr} {w0 : World} (h : RCrew w0 cs c) (hs : RScr w0 ss s) : CV Try.prog 7 #[.agg cs.toArray, .agg ss.toArray] w0 (.bool true) := by
  obtain ⟨ov, kv, nv, rfl, hso, hsk, hsn, hrm⟩ := id h
  obtain ⟨a, cap, rfl, hcap, hmx, hel⟩ := id hso
  obtain ⟨sv, rfl, hsz, hst⟩ := id hs
  obtain ⟨ax, cps, rfl, hscap, hsmx, hels⟩ := id hst
  refine enter Try.func7 rfl Try.ntmps7 rfl ?_
  have hS := St.start w0
  refine seq ?_
  refine region ?_
  refine sbox hS rfl rfl ?_; clear hS; intro b2 w hS
  refine sbox hS rfl rfl ?_; clear hS; intro b3 w hS
  refine sv (yAsg rfl) ?_
  refine nil ?_
  show Code.wp _ _ _ _ _
  refine seq ?_
  refine region ?_
  refine sv (yLdBA rfl Try.isAgg26 Try.sizeOf26 (hS.at _) rfl rfl) ?_
  refine sv (yLdBA rfl Try.isAgg29 Try.sizeOf29 (hS.at _) rfl rfl) ?_
  refine scall Try.call23 (.cons rfl (.cons rfl .nil)) (c_CheckScript (h.ext hS.ext) (hs.ext hS.ext)) ?_
  rintro _ w ⟨rfl, hE⟩; replace hS := hS.step hE; clear hE
  refine sv (yMove rfl) ?_
  refine sv (yExt rfl rfl) ?_
  refine sv (yExt rfl rfl) ?_
  refine sv (yAsg rfl) ?_
  refine sv (yAsg rfl) ?_
  refine nil ?_
  show Code.wp _ _ _ _ _
  refine seq ?_
  refine region ?_
  refine sv (yLdBA rfl Try.isAgg26 Try.sizeOf26 (hS.at _) rfl rfl) ?_
  refine sv (yLdBA rfl Try.isAgg29 Try.sizeOf29 (hS.at _) rfl rfl) ?_
  refine scall Try.call24 (.cons rfl (.cons rfl .nil)) (c_rCheckScript (h.ext hS.ext) (hs.ext hS.ext)) ?_
  rintro _ w ⟨rfl, hE⟩; replace hS := hS.step hE; clear hE
  refine sv (yMove rfl) ?_
  refine sv (yExt rfl rfl) ?_
  refine sv (yExt rfl rfl) ?_
  refine sv (yAsg rfl) ?_
  refine sv (yAsg rfl) ?_
  refine nil ?_
  show Code.wp _ _ _ _ _
  refine seq ?_
  refine seq ?_
  refine region ?_
  refine sv (yMove rfl) ?_
  refine sv (yMove rfl) ?_
  refine sv (yNeq rfl rfl) ?_
  refine sv (yMove rfl) ?_
  refine sg rfl rfl rfl (fun g => (yMove rfl)) (fun v27 g27 => ?_)
  refine sg rfl rfl rfl (fun g => (yMove rfl)) (fun v28 g28 => ?_)
  refine sg rfl rfl rfl (fun g => (yNeq (g27.1 g) (g28.1 g))) (fun v29 g29 => ?_)
  refine sv (yOr rfl rfl (fun hB => (g29.1 hB))) ?_
  refine nil ?_
  show Code.wp _ _ _ _ _
  refine cond rfl (fun c30 => ?_) (fun c30 => ?_)
  ·
    skip
    exfalso
    simp at c30
  ·
    skip
    refine skip ?_
    show Code.wp _ _ _ _ _
    refine seq ?_
    refine region ?_
    refine sv (yLdBA rfl Try.isAgg26 Try.sizeOf26 (hS.at _) rfl rfl) ?_
    refine sv (yLdBA rfl Try.isAgg29 Try.sizeOf29 (hS.at _) rfl rfl) ?_
    refine scall Try.call25 (.cons rfl (.cons rfl .nil)) (c_Windows (h.ext hS.ext) (hs.ext hS.ext)) ?_
    rintro _ w ⟨wv, rfl, hM⟩; replace hS := hS.call1 hM; clear hM
    refine sv (yMove rfl) ?_
    refine sv (yExt rfl rfl) ?_
    refine sv (yExt rfl rfl) ?_
    refine sv (yAsg rfl) ?_
    refine sv (yAsg rfl) ?_
    refine nil ?_
    show Code.wp _ _ _ _ _
    refine seq ?_
    refine region ?_
    refine sv (yLdBA rfl Try.isAgg26 Try.sizeOf26 (hS.at _) rfl rfl) ?_
    refine sv (yLdBA rfl Try.isAgg29 Try.sizeOf29 (hS.at _) rfl rfl) ?_
    refine scall Try.call26 (.cons rfl (.cons rfl .nil)) (c_rWindows (h.ext hS.ext) (hs.ext hS.ext)) ?_
    rintro _ w ⟨wx, rfl, hM⟩; replace hS := hS.call1 hM; clear hM
    refine sv (yMove rfl) ?_
    refine sv (yExt rfl rfl) ?_
    refine sv (yExt rfl rfl) ?_
    refine sv (yAsg rfl) ?_
    refine sv (yAsg rfl) ?_
    refine nil ?_
    show Code.wp _ _ _ _ _
    refine seq ?_
    refine region ?_
    refine sv (yMove rfl) ?_
    refine sv (yMove rfl) ?_
    refine scall Try.call27 (.cons rfl (.cons rfl .nil)) (c_Spans (sl_prs (hS.row wv) rfl) (sl_prs (hS.row wx) rfl)) ?_
    rintro _ w ⟨rfl, hE⟩; replace hS := hS.step hE; clear hE
    refine sv (yMove rfl) ?_
    refine sg rfl rfl rfl (fun g => (yMove rfl)) (fun v47 g47 => ?_)
    refine sg rfl rfl rfl (fun g => (yMove rfl)) (fun v48 g48 => ?_)
    refine sg rfl rfl rfl (fun g => (yEql (g47.1 g) (g48.1 g))) (fun v49 g49 => ?_)
    refine sv (yAnd rfl (fun hB => (g49.1 hB)) rfl) ?_
    refine sv (yMove rfl) ?_
    refine sgc hS rfl rfl rfl Try.call18 (fun g => .nil) (fun g => c_Awake) ?_; clear hS; intro v52 w hS g52
    refine sv (yAnd rfl (fun hB => (g52.1 hB)) rfl) ?_
    refine sv (yAsg rfl) ?_
    refine nil ?_
    show Code.wp _ _ _ _ _
    refine wp_ret ?_
    exact retV (res1 rfl (eqB (by simp))) hS.ext
end Go.Proofs.Ytghgnofilbnbaaa
/- part C25 -/
namespace Bx
open Go Go.RowKit
theorem bools_sl {w : World} {b : Nat} {t : TypeId} {l : List Bool} (h : w.heap[b]? = some (.cells (l.map Value.bool).toArray t (0, 0))) (hn : l.length ≤ 9223372036854775807) : Sl w 1 RBool (.slice (some ⟨b, 0, none⟩) l.length l.length) l := by
  refine ⟨_, _, rfl, Nat.le_refl _, hn, fun i hi => ⟨b, 0, [.bool l[i]], rfl, rfl, fun j v hv => ?_, rfl⟩⟩
  have hj : j = 0 := by
    have := (List.getElem?_eq_some_iff.1 hv).1
    simp at this; exact this
  subst hj
  obtain rfl : Value.bool l[i] = v := by simpa using hv
  rw [show 0 + i * 1 + 0 = i by omega]
  exact cell_of h (by rw [List.getElem?_map, List.getElem?_eq_getElem hi]; rfl)
theorem blk_ok {w : World} {b : Nat} {cs : List Value} {t : TypeId} (h : (blk b cs t).ok w) : w.heap[b]? = some (.cells cs.toArray t (0, 0)) := by
  obtain ⟨o, h1, rfl⟩ := h
  exact h1
theorem splice_one {vs : List Value} {i : Nat} {v : Value} (h : i < vs.length) : splice vs (i * 1) [v] = vs.set i v := by
  unfold splice
  rw [Nat.mul_one, List.set_eq_take_append_cons_drop, if_pos h]
  simp
theorem splice_bool {l : List Bool} {i : Nat} {v : Bool} (h : i < l.length) : splice (l.map Value.bool) (i * 1) [.bool v] = (l.set i v).map Value.bool := by
  rw [splice_one (by simpa using h), List.map_set]
theorem rep_flatB (n : Nat) : (List.replicate n [Value.bool false]).flatten = (List.replicate n false).map Value.bool := by
  induction n with
  | zero => rfl
  | succ n ih => rw [List.replicate_succ, List.replicate_succ, List.flatten_cons, List.map_cons, ih]; rfl
theorem rep_flatS (n : Nat) : (List.replicate n [Value.slice none 0 0]).flatten = List.replicate n (Value.slice none 0 0) := by
  induction n with
  | zero => rfl
  | succ n ih => rw [List.replicate_succ, List.replicate_succ, List.flatten_cons, ih]; rfl
/-! ### the earliest -/
def tbP (bl : List Bool) (v : Int) : Bool := bl.getD v.toNat false
def earI (bl : List Bool) (x : Stp) (b : Int) : Int := firstIn (tbP bl) (b + x.least) (b + x.most)
def earF (bl : List Bool) (x : Stp) (b : Int) : Int × Bool := if 0 ≤ earI bl x b then (earI bl x b, true) else (0, false)
theorem earF_hit {bl : List Bool} {x : Stp} {b : Int} {j : Nat} (h0 : 0 ≤ b + x.least) (hj : b + x.least + j ≤ b + x.most) (hp : tbP bl (b + x.least + j) = true) (hn : ∀ i : Nat, i < j → tbP bl (b + x.least + i) = false) : earF bl x b = (b + x.least + j, true) := by
  have e : earI bl x b = b + x.least + j := firstIn_hit hj hp hn
  unfold earF
  rw [e, if_pos (by omega)]
theorem earF_none {bl : List Bool} {x : Stp} {b : Int} (hn : ∀ i : Nat, b + x.least + i ≤ b + x.most → tbP bl (b + x.least + i) = false) : earF bl x b = (0, false) := by
  have e : earI bl x b = -1 := firstIn_none hn
  unfold earF
  rw [e, if_neg (by decide)]
theorem firstIn_ext {p q : Int → Bool} {lo hi : Int} (h : ∀ v, lo ≤ v → v ≤ hi → p v = q v) : firstIn p lo hi = firstIn q lo hi := by
  have e : (List.range (hi - lo + 1).toNat).find? (fun (j : Nat) => p (lo + (j : Int))) = (List.range (hi - lo + 1).toNat).find? (fun (j : Nat) => q (lo + (j : Int))) := by
    have key : ∀ l : List Nat, (∀ j ∈ l, lo + (j : Int) ≤ hi) → l.find? (fun (j : Nat) => p (lo + (j : Int))) = l.find? (fun (j : Nat) => q (lo + (j : Int))) := by
      intro l
      induction l with
      | nil => intro _; rfl
      | cons a l ih =>
        intro hl
        rw [List.find?_cons, List.find?_cons, h (lo + a) (by omega) (hl a (List.mem_cons_self ..)), ih (fun j hj => hl j (List.mem_cons_of_mem _ hj))]
    exact key _ (fun j hj => by have := List.mem_range.1 hj; omega)
  unfold firstIn
  rw [e]
/-! ### tables -/
def winA (s : Scr) (i : Nat) : Int × Int := (winL s.steps).getD i (0, 0)
def tab (c : Crew) (s : Scr) (start : Int) (i : Nat) : List Bool := (List.range ((winA s i).2.toNat + 1)).map fun (m : Nat) => decide ((winA s i).1 ≤ (m : Int)) && canS c s i (start + m)
theorem tab_len (c : Crew) (s : Scr) (start : Int) (i : Nat) : (tab c s start i).length = (winA s i).2.toNat + 1 := by unfold tab; simp
theorem tab_get {c : Crew} {s : Scr} {start : Int} {i : Nat} {v : Int} (h0 : 0 ≤ v) (h1 : (winA s i).1 ≤ v) (h2 : v ≤ (winA s i).2) : tbP (tab c s start i) v = canS c s i (v + start) := by
  obtain ⟨m, rfl⟩ := Int.eq_ofNat_of_zero_le h0
  unfold tbP tab
  rw [Int.toNat_natCast, List.getD_eq_getElem?_getD, List.getElem?_map, List.getElem?_range (by omega), Option.map_some, Option.getD_some, decide_eq_true h1, Bool.true_and, Int.add_comm]
theorem winA_get {s : Scr} {i : Nat} {w : Int × Int} (h : (winL s.steps)[i]? = some w) : winA s i = w := by
  unfold winA
  rw [List.getD_eq_getElem?_getD, h]; rfl
theorem winA_bd {c : Crew} {s : Scr} (hok : ScrOk c s) {i : Nat} (hi : i < s.steps.length) : (0 ≤ (winA s i).1 ∧ (winA s i).1 ≤ 2400) ∧ 0 ≤ (winA s i).2 ∧ (winA s i).2 ≤ 2400 := by
  have hw := List.getElem?_eq_getElem (show i < (winL s.steps).length by rw [winL_len]; exact hi)
  rw [winA_get hw]
  have := winL_bd hok.steps s.steps.length (Nat.le_refl _) _ (by rw [List.take_length]; exact List.mem_of_getElem? hw)
  have := hok.len
  omega
theorem winA_after {c : Crew} {s : Scr} (hok : ScrOk c s) {k i : Nat} {x : Stp} (hx : s.steps[k]? = some x) (ha : x.after = i) : winA s k = (x.least + (winA s i).1, x.most + (winA s i).2) := by
  have hk := (List.getElem?_eq_some_iff.1 hx).1
  have hak := (hok.steps k x hx).after
  have hwi := List.getElem?_eq_getElem (show i < (winL s.steps).length by rw [winL_len]; omega)
  rw [winA_get (winL_get hx), winA_get hwi]
  exact winS_yes ha (by rw [List.getElem?_take, if_pos (by omega)]; exact hwi)
theorem winA_first {s : Scr} {k : Nat} {x : Stp} (hx : s.steps[k]? = some x) (ha : x.after < 0) : winA s k = (x.least, x.most) := by
  rw [winA_get (winL_get hx)]
  exact winS_no (by omega)
/-- What the table of a step tells. -/
theorem ear_first {c : Crew} {s : Scr} {start b : Int} {k : Nat} {x : Stp} (hx : s.steps[k]? = some x) (h0 : 0 ≤ b + x.least) (h1 : (winA s k).1 ≤ b + x.least) (h2 : b + x.most ≤ (winA s k).2) (hs : 0 ≤ start) :
    ((earF (tab c s start k) x b).2 = true ↔ 0 ≤ firstP c s k (b + start)) ∧ (0 ≤ firstP c s k (b + start) → (earF (tab c s start k) x b).1 + start = firstP c s k (b + start)) := by
  have hxa := stpAt_hit hx
  have e : earI (tab c s start k) x b = firstIn (fun v => canS c s k (v + start)) (b + x.least) (b + x.most) := firstIn_ext (fun v h3 h4 => tab_get (by omega) (by omega) (by omega))
  have hsh := firstIn_sh (p := fun v => canS c s k (v + start)) (q := canS c s k) (n := start) (lo := b + x.least) (hi := b + x.most) (fun v => rfl) h0 hs
  have e2 : firstP c s k (b + start) = firstIn (canS c s k) (b + x.least + start) (b + x.most + start) := by
    unfold firstP
    rw [hxa, show b + start + x.least = b + x.least + start by omega, show b + start + x.most = b + x.most + start by omega]
  rw [e2]
  unfold earF
  rw [e]
  refine ⟨?_, fun h => ?_⟩
  · rw [hsh.1]
    split
    · rename_i h; simp [h]
    · rename_i h; simp; omega
  · rw [hsh.2 (hsh.1.1 h), if_pos (hsh.1.1 h)]
theorem base_yes {c : Crew} {s : Scr} {i : Nat} {m : Int} {x : Stp} (hx : s.steps[i]? = some x) (h : inB m 0 100000 = true) : (ableR c x.kind m).2.2 = baseP c s i m := by
  unfold baseP
  rw [stpAt_hit hx, show neverB m = false by rw [neverB, outB_false]; exact inB_iff.1 h, Bool.not_false, Bool.true_and]
  unfold ableR ableB
  cases pairsL c (kndAt c x.kind) m <;> rfl
theorem base_no {c : Crew} {s : Scr} {i : Nat} {m : Int} (h : inB m 0 100000 = false) : inB m 0 100000 = baseP c s i m := by
  rw [h]
  unfold baseP
  rw [show neverB m = true by unfold neverB; rw [← inB_not, h]; rfl]; rfl
theorem acc_first {c : Crew} {s : Scr} (hs : ∀ (j : Nat) y, s.steps[j]? = some y → StpOk c j y) {i : Nat} (hi : i < s.steps.length) (m : Int) : ∀ k, k ≤ i + 1 → accK c s i m k = baseP c s i m
  | 0, _ => accK_zero c s i m
  | k + 1, hk => by
    have hx := List.getElem?_eq_getElem (show k < s.steps.length by omega)
    have ha := (hs k _ hx).after
    rw [accK_succ (stpAt_hit hx), acc_first hs hi m k (by omega), decide_eq_true (show (s.steps[k]).after ≠ (i : Int) by omega)]
    simp
theorem acc_mono {c : Crew} {s : Scr} {i : Nat} {m : Int} {k n : Nat} (h : accK c s i m k = false) (hn : k ≤ n) : accK c s i m n = false := by
  unfold accK at h ⊢
  rw [Bool.and_eq_false_iff] at h ⊢
  rcases h with h | h
  · exact .inl h
  · right
    rw [List.all_eq_false] at h ⊢
    obtain ⟨x, hx, hp⟩ := h
    exact ⟨x, List.mem_range.2 (by have := List.mem_range.1 hx; omega), hp⟩
theorem acc_done {c : Crew} {s : Scr} (hs : ∀ (j : Nat) y, s.steps[j]? = some y → StpOk c j y) {i : Nat} (hi : i < s.steps.length) {m : Int} {k : Nat} (hk : k ≤ s.steps.length) (h : s.steps.length ≤ k ∨ accK c s i m k = false) : accK c s i m k = canS c s i m := by
  rw [← accK_full hs hi]
  by_cases hkn : k = s.steps.length
  · rw [hkn]
  · have h2 : accK c s i m k = false := by
      rcases h with h | h
      · omega
      · exact h
    rw [h2, acc_mono h2 hk]
theorem acc_ear {c : Crew} {s : Scr} {start : Int} {i k m : Nat} {x : Stp} (hok : ScrOk c s) (hx : s.steps[k]? = some x) (ha : x.after = i) (hs : 0 ≤ start) (hm : (winA s i).1 ≤ m ∧ (m : Int) ≤ (winA s i).2) (hacc : accK c s i (start + m) k = true) : (earF (tab c s start k) x m).2 = accK c s i (start + m) (k + 1) := by
  have hw := winA_after hok hx ha
  have hl := (hok.steps k x hx).least
  have hmo := (hok.steps k x hx).most
  rw [accK_succ (stpAt_hit hx), hacc, Bool.true_and, decide_eq_false (by omega), Bool.false_or]
  have := (ear_first (c := c) (start := start) (b := (m : Int)) hx (by omega) (by rw [hw]; dsimp only; omega) (by rw [hw]; dsimp only; omega) hs).1
  rw [Int.add_comm] at this
  rw [Bool.eq_iff_iff, decide_eq_true_eq]
  exact this
theorem acc_skip {c : Crew} {s : Scr} {i k : Nat} {m : Int} {x : Stp} (hx : s.steps[k]? = some x) (ha : ¬ x.after = i) : accK c s i m k = accK c s i m (k + 1) := by
  rw [accK_succ (stpAt_hit hx), decide_eq_true ha, Bool.true_or, Bool.and_true]
theorem tab_eq {c : Crew} {s : Scr} {start : Int} {i n m : Nat} {bl : List Bool} (hn : n = (winA s i).2.toNat + 1) (hl : bl.length = n) (hm : n ≤ m) (h : ∀ j, j < n → bl[j]? = some (if j < m then (decide ((winA s i).1 ≤ (j : Int)) && canS c s i (start + j)) else false)) : bl = tab c s start i := by
  refine eq_of_get (by rw [tab_len, hl, hn]) (fun j hj => ?_)
  rw [h j (by omega), if_pos (by omega)]
  unfold tab
  rw [List.getElem?_map, List.getElem?_range (by omega)]
  rfl
/-- The tables of the steps from one on. -/
def TabK (c : Crew) (s : Scr) (start : Int) (vs : List Value) (M : List Item) (i : Nat) : Prop := ∀ k, i ≤ k → k < s.steps.length → ∃ q, vs[k]? = some (.slice (some ⟨q, 0, none⟩) (tab c s start k).length (tab c s start k).length) ∧ blk q ((tab c s start k).map Value.bool) 4 ∈ M
theorem TabK.set {c : Crew} {s : Scr} {start : Int} {vs : List Value} {M : List Item} {i q : Nat} {v : Value} (h : TabK c s start vs M (i + 1)) (hl : i < vs.length) (hv : v = .slice (some ⟨q, 0, none⟩) (tab c s start i).length (tab c s start i).length) : TabK c s start (vs.set i v) (M ++ [blk q ((tab c s start i).map Value.bool) 4]) i := by
  intro k hk hkl
  by_cases e : k = i
  · subst e
    exact ⟨q, by rw [List.getElem?_set_self hl, hv], List.mem_append_right _ (List.mem_singleton.2 rfl)⟩
  · obtain ⟨q', h1, h2⟩ := h k (by omega) hkl
    exact ⟨q', by rw [List.getElem?_set_ne (Ne.symm e)]; exact h1, List.mem_append_left _ h2⟩
end Bx
namespace Bx
open Go Go.RowKit
theorem winA_le {c : Crew} {s : Scr} (hok : ScrOk c s) : ∀ {i : Nat}, i < s.steps.length → (winA s i).1 ≤ (winA s i).2 := by
  intro i
  induction i using Nat.strongRecOn with
  | _ i ih =>
    intro hi
    have hx := List.getElem?_eq_getElem hi
    have hsx := hok.steps i _ hx
    have h1 := hsx.after
    have h2 := hsx.least
    by_cases hneg : (s.steps[i]).after < 0
    · rw [winA_first hx hneg]; dsimp only; omega
    · obtain ⟨a, ha⟩ := Int.eq_ofNat_of_zero_le (show 0 ≤ (s.steps[i]).after by omega)
      rw [winA_after hok hx ha]
      have := ih a (by omega) (by omega)
      dsimp only; omega
theorem TabK.keep {c : Crew} {s : Scr} {start : Int} {vs : List Value} {M : List Item} {i : Nat} {v : Value} (h : TabK c s start vs M (i + 1)) : TabK c s start (vs.set i v) M (i + 1) := by
  intro k hk hkl
  obtain ⟨q, h1, h2⟩ := h k hk hkl
  exact ⟨q, by rw [List.getElem?_set_ne (by omega)]; exact h1, h2⟩
end Bx
namespace Bx
open Go Go.RowKit
def planE1 (c : Crew) (s : Scr) (start : Int) : Int := if (scriptF c s).2 ≠ 0 then (scriptF c s).2 else if neverB start = true then 7 else 0
theorem planE1_yes {c : Crew} {s : Scr} {start : Int} (h : (decide ((scriptF c s).2 = 0) && !inB start 0 100000) = true) : planE1 c s start = 7 := by
  rw [Bool.and_eq_true, decide_eq_true_eq, inB_not] at h
  unfold planE1
  rw [if_neg (not_not_intro h.1), if_pos h.2]
theorem planE1_no {c : Crew} {s : Scr} {start : Int} (h : (decide ((scriptF c s).2 = 0) && !inB start 0 100000) = false) : planE1 c s start = (scriptF c s).2 := by
  rw [inB_not, Bool.and_eq_false_iff, decide_eq_false_iff_not] at h
  unfold planE1
  by_cases h0 : (scriptF c s).2 = 0
  · rw [if_neg (not_not_intro h0), if_neg (by rw [show neverB start = false from h.resolve_left (not_not_intro h0)]; decide), h0]
  · rw [if_pos h0]
theorem planE1_bad {c : Crew} {s : Scr} {start : Int} (h : planE1 c s start ≠ 0) : planE c s start = planE1 c s start ∧ planL c s start = [] := by
  unfold planE1 at h ⊢
  by_cases h0 : (scriptF c s).2 = 0
  · rw [if_neg (not_not_intro h0)] at h ⊢
    by_cases hn : neverB start = true
    · rw [if_pos hn]
      exact planE_never h0 hn
    · rw [if_neg hn] at h; exact absurd rfl h
  · rw [if_pos h0]
    exact planE_bad h0
theorem planE1_ok {c : Crew} {s : Scr} {start : Int} (h : planE1 c s start = 0) : (scriptF c s).2 = 0 ∧ neverB start = false := by
  unfold planE1 at h
  split at h
  · rename_i h1; exact absurd h h1
  split at h
  · cases h
  · rename_i h1 h2
    exact ⟨Classical.not_not.1 h1, by simpa using h2⟩
theorem winA_bef {c : Crew} {s : Scr} {start : Int} {l : List Int} {k : Nat} {x : Stp} (hs : (scriptF c s).2 = 0) (hg : GoodP c s start l) (hl : l.length = k) (hx : s.steps[k]? = some x) :
    (0 ≤ befP start l x - start ∧ befP start l x - start ≤ 2400) ∧ (winA s k).1 ≤ befP start l x - start + x.least ∧ befP start l x - start + x.most ≤ (winA s k).2 := by
  have hok := scrOk_of hs
  have hsx := hok.steps k x hx
  have h1 := hsx.after
  have h2 := hsx.least
  by_cases hneg : x.after < 0
  · rw [befP_neg hneg, winA_first hx hneg]; dsimp only; omega
  · obtain ⟨a, ha⟩ := Int.eq_ofNat_of_zero_le (show 0 ≤ x.after by omega)
    have hk := (List.getElem?_eq_some_iff.1 hx).1
    have hv := List.getElem?_eq_getElem (show a < l.length by omega)
    have hw := List.getElem?_eq_getElem (show a < (winL s.steps).length by rw [winL_len]; omega)
    have := good_win hs hg a _ _ hv hw
    rw [← winA_get hw] at this
    have hb := winA_bd hok (show a < s.steps.length by omega)
    rw [befP_at ha hv, winA_after hok hx ha]
    dsimp only
    omega
end Bx
/- part Ck40 -/
namespace Go.Proofs.Ytghgnofilbnbaaa
open Go Bx
set_option maxHeartbeats 1000000 in
/-- barrage/barrageref10.earliest -/
theorem c_rear {x : Stp} {bl : List Bool} {v : Value} {b0 : Int} {w0 : World} (hl : Sl w0 1 RBool v bl) (h0 : 0 ≤ b0 + x.least ∧ b0 + x.least ≤ 100000) (h1 : b0 + x.most < bl.length) (h2 : bl.length ≤ 100000) (hlm : x.least ≤ x.most) : CV Try.prog 48 #[.agg (stpC x).toArray, v, .int .i64 b0] w0 (.tuple #[.int .i64 (earF bl x b0).1, .bool (earF bl x b0).2]) := by
  obtain ⟨al, cl, rfl, hlcap, hlmx, hel⟩ := id hl
  refine enter Try.func48 rfl Try.ntmps48 rfl ?_
  have hS := St.start w0
  refine seq ?_
  refine region ?_
  refine sbox hS rfl rfl ?_; clear hS; intro b3 w hS
  refine sv (yAsg rfl) ?_
  refine sv (yAsg rfl) ?_
  refine nil ?_
  show Code.wp _ _ _ _ _
  refine seq ?_
  refine seq ?_
  refine region ?_
  refine sv (yMove rfl) ?_
  refine sv (fa89_3 rfl) ?_
  refine sv (yLdB rfl Try.isAgg3 (hS.at _) rfl) ?_
  refine sv (yAdd rfl rfl ⟨by omega, by omega⟩) ?_
  refine sv (yAsg rfl) ?_
  refine nil ?_
  show Code.wp _ _ _ _ _
  refine block ?_
  refine loop (fun f w zz => ∃ (j : Nat), f 1 = .slice al bl.length cl ∧ f 2 = .int .i64 b0 ∧ f 3 = .pointer (some ⟨b3, 0, none⟩) ∧ f 8 = .int .i64 (b0 + x.least + (j : Int)) ∧ StX [] w0 w [blk b3 (stpC x) 89] ∧ (∀ i : Nat, i < j → tbP bl (b0 + x.least + (i : Int)) = false) ∧ ((j : Int) ≤ 100000) ∧ zz = (b0 + x.most + 1 - (b0 + x.least + (j : Int))).toNat) _ ⟨_, rfl, 0, rfl, rfl, rfl, rfl.trans (congrArg (Value.int .i64) (Int.add_zero _).symm), hS, (fun i hi => absurd hi (Nat.not_lt_zero i)), (by omega), rfl⟩ ?_
  clear hS
  rintro f w _ ⟨j, h1, h2, h3, h8, hS, hN, hj, rfl⟩
  refine seq ?_
  refine seq ?_
  refine region ?_
  refine sv (yMove h8) ?_
  refine sv (yMove h2) ?_
  refine sv (fa89_4 h3) ?_
  refine sv (yLdB rfl Try.isAgg3 (hS.at _) rfl) ?_
  refine sv (yAdd rfl rfl ⟨by omega, by omega⟩) ?_
  refine sv (yLeq rfl rfl) ?_
  refine nil ?_
  show Code.wp _ _ _ _ _
  refine cond rfl (fun c18 => ?_) (fun c18 => ?_)
  ·
    simp only [Bool.and_eq_true, Bool.or_eq_true, Bool.and_eq_false_iff, Bool.or_eq_false_iff, decide_eq_true_eq, decide_eq_false_iff_not, Bool.not_eq_true, Bool.not_eq_false, Bool.not_not, Bool.not_eq_eq_eq_not, Bool.not_true, Bool.not_false, Bool.false_eq_true, Bool.true_eq_false, ne_eq, Decidable.not_not, not_false_eq_true, not_true_eq_false] at c18
    refine skip ?_
    show Code.wp _ _ _ _ _
    refine seq ?_
    refine block ?_
    refine seq ?_
    refine region ?_
    obtain ⟨q, hqe⟩ := Int.eq_ofNat_of_zero_le (show 0 ≤ b0 + x.least + (j : Int) by omega)
    obtain ⟨y, hxz, hdz⟩ := drop_of (l := bl) (k := q) (by omega)
    obtain ⟨bz, oz, csz, haz, hlenz, hcsz, hRz⟩ := hel (q) (by omega)
    obtain rfl : y = bl[q] := (List.getElem?_eq_some_iff.1 hxz).2.symm
    generalize bl[q] = y at hxz hdz hRz
    have hR := hRz
    obtain rfl : csz = [.bool y] := hR
    have hq : tbP bl (b0 + x.least + (j : Int)) = y := by unfold tbP; rw [hqe, Int.toNat_natCast, List.getD_eq_getElem?_getD, hxz]; rfl
    refine sv (yMove h1) ?_
    refine sv (yMove h8) ?_
    refine sv (yIxa rfl haz (rfl.trans (congrArg (Value.int .i64) hqe)) Try.runUnderlying111 Try.sizeOf4 (by omega) (by omega)) ?_
    refine sv (yLd rfl Try.isAgg4 ((hcsz.ext hS.ext).one)) ?_
    refine nil ?_
    show Code.wp _ _ _ _ _
    refine cond rfl (fun c24 => ?_) (fun c24 => ?_)
    ·
      refine seq ?_
      refine region ?_
      refine sv (yMove h8) ?_
      refine sv (yAsg rfl) ?_
      refine sv (yAsg rfl) ?_
      refine nil ?_
      show Code.wp _ _ _ _ _
      have hfin := earF_hit (bl := bl) (x := x) (b := b0) h0.1 (by omega) (hq.trans c24) hN
      refine wp_ret (blockR (thenR (thenR (blockR (thenR ?_)))))
      exact retV (res2 rfl (eqI (by rw [hfin])) (eqB (by rw [hfin]))) hS.ext
    ·
      refine skip ?_
      show Code.wp _ _ _ _ _
      refine region ?_
      refine sv (yMove h8) ?_
      refine sv (yAdd rfl rfl ⟨by omega, by omega⟩) ?_
      refine sv (yAsg rfl) ?_
      refine nil ?_
      exact ⟨_, _, rfl, ⟨j + 1, h1, h2, h3, rfl.trans (congrArg (Value.int .i64) (by omega)), hS, (snoc hN (hq.trans c24)), (by omega), rfl⟩, by omega⟩
  ·
    simp only [Bool.and_eq_true, Bool.or_eq_true, Bool.and_eq_false_iff, Bool.or_eq_false_iff, decide_eq_true_eq, decide_eq_false_iff_not, Bool.not_eq_true, Bool.not_eq_false, Bool.not_not, Bool.not_eq_eq_eq_not, Bool.not_true, Bool.not_false, Bool.false_eq_true, Bool.true_eq_false, ne_eq, Decidable.not_not, not_false_eq_true, not_true_eq_false] at c18
    refine exit ?_
    show Code.wp _ _ _ _ _
    refine seq ?_
    refine region ?_
    refine sv (yAsg rfl) ?_
    refine sv (yAsg rfl) ?_
    refine nil ?_
    show Code.wp _ _ _ _ _
    have hfin := earF_none (bl := bl) (x := x) (b := b0) (fun i hi => hN i (by omega))
    refine wp_ret ?_
    exact retV (res2 rfl (eqI (by rw [hfin])) (eqB (by rw [hfin]))) hS.ext
set_option maxHeartbeats 8000000 in
/-- barrage/barrageref10.can -/
theorem c_rcan {c : Crew} {cs ss : List Value} {s : Scr} {w0 : World} (h : RCrew w0 cs c) (hs : RScr w0 ss s) {start : Int} {wv : Value} (hw : Sl w0 2 RPr wv (winL s.steps)) (hs0 : (scriptF c s).2 = 0) (hm : 0 ≤ start ∧ start ≤ 100000) : CE Try.prog 47 #[.agg cs.toArray, .agg ss.toArray, wv, .int .i64 start] w0 (fun u w' => ∃ q vs M, u = .slice (some ⟨q, 0, none⟩) s.steps.length s.steps.length ∧ vs.length = s.steps.length ∧ TabK c s start vs M 0 ∧ St w0 w' [packI M, blk q vs 111]) := by
  obtain ⟨ov, kv, nv, rfl, hso, hsk, hsn, hrm⟩ := id h
  obtain ⟨a, cap, rfl, hcap, hmx, hel⟩ := id hso
  obtain ⟨ak, ck, rfl, hckap, hkmx, helk⟩ := id hsk
  obtain ⟨an, cn, rfl, hncap, hnmx, heln⟩ := id hsn
  obtain ⟨sv, rfl, hsz, hst⟩ := id hs
  obtain ⟨ax, cps, rfl, hscap, hsmx, hels⟩ := id hst
  obtain ⟨aw, cw, rfl, hwcap, hwmx, helw⟩ := id hw
  have hok := scrOk_of hs0
  have hlen := hok.len
  have hwl := winL_len s.steps
  refine enter Try.func47 rfl Try.ntmps47 rfl ?_
  have hS := St.start w0
  refine seq ?_
  refine region ?_
  refine sbox hS rfl rfl ?_; clear hS; intro b4 w hS
  refine sbox hS rfl rfl ?_; clear hS; intro b5 w hS
  refine sv (yAsg rfl) ?_
  refine nil ?_
  show Code.wp _ _ _ _ _
  refine seq ?_
  refine region ?_
  refine sv (fa29_1 rfl) ?_
  refine sv (yLdB rfl Try.isAgg27 (hS.at _) rfl) ?_
  refine sv (yLen rfl Try.underlying27) ?_
  refine smake (bytes := 24) (zs := [.slice none 0 0]) (m := s.steps.length) hS rfl rfl Try.underlying107 ti111 rfl rfl rfl rfl rfl (by omega) (by omega) ?_; clear hS; intro b17 w hS
  refine sv (yAsg rfl) ?_
  refine nil ?_
  show Code.wp _ _ _ _ _
  refine seq ?_
  refine seq ?_
  refine region ?_
  rw [rep_flatS] at hS
  replace hS : StX [] w0 w (blk b17 (List.replicate s.steps.length (.slice none 0 0)) 111 :: blk b5 [.string s.name, .slice ax s.steps.length cps] 29 :: blk b4 [.slice a c.ops.length cap, .slice ak c.keys.length ck, .slice an c.kinds.length cn] 26 :: []) := hS
  replace hS : StX [] w0 w (packI [] :: blk b17 (List.replicate s.steps.length (.slice none 0 0)) 111 :: blk b5 [.string s.name, .slice ax s.steps.length cps] 29 :: blk b4 [.slice a c.ops.length cap, .slice ak c.keys.length ck, .slice an c.kinds.length cn] 26 :: []) := StX.pack (M := []) hS
  refine sv (fa29_1 rfl) ?_
  refine sv (yLdB rfl Try.isAgg27 (hS.at _) rfl) ?_
  refine sv (yLen rfl Try.underlying27) ?_
  refine sv (ySub rfl rfl ⟨by omega, by omega⟩) ?_
  refine sv (yAsg rfl) ?_
  refine nil ?_
  show Code.wp _ _ _ _ _
  refine block ?_
  refine loop (fun f w zz => ∃ (i : Nat) (vs : List Value) (M : List Bx.Item), f 2 = .slice aw (winL s.steps).length cw ∧ f 3 = .int .i64 start ∧ f 4 = .pointer (some ⟨b4, 0, none⟩) ∧ f 5 = .pointer (some ⟨b5, 0, none⟩) ∧ f 9 = .slice (some ⟨b17, 0, none⟩) s.steps.length s.steps.length ∧ f 10 = .int .i64 ((i : Int) - 1) ∧ StX [] w0 w [packI M, blk b17 vs 111, blk b5 [.string s.name, .slice ax s.steps.length cps] 29, blk b4 [.slice a c.ops.length cap, .slice ak c.keys.length ck, .slice an c.kinds.length cn] 26] ∧ (i ≤ s.steps.length) ∧ (vs.length = s.steps.length) ∧ (TabK c s start vs M i) ∧ zz = i + 1) _ ⟨_, rfl, s.steps.length, _, [], rfl, rfl, rfl, rfl, rfl, rfl, hS, (Nat.le_refl _), (List.length_replicate), (fun k h1 h2 => absurd h2 (by omega)), rfl⟩ ?_
  clear hS
  rintro f w _ ⟨i, vs, M, h2, h3, h4, h5, h9, h10, hS, hi, hvl, hT, rfl⟩
  refine seq ?_
  refine seq ?_
  refine region ?_
  refine sv (yMove h10) ?_
  refine sv (yGeq rfl rfl) ?_
  refine nil ?_
  show Code.wp _ _ _ _ _
  refine cond rfl (fun c23 => ?_) (fun c23 => ?_)
  ·
    simp only [Bool.and_eq_true, Bool.or_eq_true, Bool.and_eq_false_iff, Bool.or_eq_false_iff, decide_eq_true_eq, decide_eq_false_iff_not, Bool.not_eq_true, Bool.not_eq_false, Bool.not_not, Bool.not_eq_eq_eq_not, Bool.not_true, Bool.not_false, Bool.false_eq_true, Bool.true_eq_false, ne_eq, Decidable.not_not, not_false_eq_true, not_true_eq_false] at c23
    obtain ⟨i, rfl⟩ : ∃ i0, i = i0 + 1 := ⟨i - 1, by omega⟩
    rw [show (((i + 1 : Nat) : Int) - 1) = (i : Int) by omega] at h10
    obtain ⟨x, hxq, hdq⟩ := drop_of (l := s.steps) (k := i) (by omega)
    obtain ⟨bq, oq, csq, haq, hlenq, hcsq, hRq⟩ := hels (i) (by omega)
    obtain rfl : x = s.steps[i] := (List.getElem?_eq_some_iff.1 hxq).2.symm
    generalize s.steps[i] = x at hxq hdq hRq
    obtain ⟨rfl, hxi⟩ := hRq
    have hsx := hok.steps i x hxq
    have hbw := winA_bd hok (show i < s.steps.length by omega)
    obtain ⟨wi, hxw2, hdw2⟩ := drop_of (l := (winL s.steps)) (k := i) (by omega)
    obtain ⟨bw2, ow2, csw2, haw2, hlenw2, hcsw2, hRw2⟩ := helw (i) (by omega)
    obtain rfl : wi = (winL s.steps)[i] := (List.getElem?_eq_some_iff.1 hxw2).2.symm
    generalize (winL s.steps)[i] = wi at hxw2 hdw2 hRw2
    obtain ⟨rfl, _⟩ := hRw2
    obtain rfl : winA s i = wi := winA_get hxw2
    obtain ⟨hi2, hhi⟩ := Int.eq_ofNat_of_zero_le hbw.2.1
    obtain ⟨lo, hlo⟩ := Int.eq_ofNat_of_zero_le hbw.1.1
    have hle : (winA s i).1 ≤ (winA s i).2 := winA_le hok (show i < s.steps.length by omega)
    refine skip ?_
    show Code.wp _ _ _ _ _
    refine seq ?_
    refine block ?_
    refine seq ?_
    refine region ?_
    refine sv (yMove h9) ?_
    refine sv (yMove h10) ?_
    refine sv (yMove h2) ?_
    refine sv (yMove h10) ?_
    refine sv (yIxa rfl haw2 rfl Try.runUnderlying62 Try.sizeOf86 (by omega) (by omega)) ?_
    refine sv (fa86_1 rfl) ?_
    refine sv (yLd rfl Try.isAgg3 ((hcsw2.ext hS.ext).at (j := 1) rfl)) ?_
    refine sv (yAdd rfl rfl ⟨by omega, by omega⟩) ?_
    refine smake (bytes := 1) (zs := [.bool false]) (m := (winA s i).2.toNat + 1) hS (rfl.trans (congrArg (Value.int .i64) (by omega))) (rfl.trans (congrArg (Value.int .i64) (by omega))) Try.underlying111 ti4 rfl rfl rfl rfl rfl (by omega) (by omega) ?_; clear hS; intro b34 w hS; rw [rep_flatB] at hS
    refine sv (yIx0 rfl rfl Try.runUnderlying107 Try.sizeOf111 (by omega)) ?_
    refine sst (vs := [.slice (some ⟨b34, 0, none⟩) ((winA s i).2.toNat + 1) ((winA s i).2.toNat + 1)]) hS rfl rfl Try.sizeOf111 rfl rfl (by rw [Nat.ble_eq]; omega) rfl ?_; clear hS; intro w hS; rw [splice_one (by omega)] at hS
    have hvi : (vs.set i (.slice (some ⟨b34, 0, none⟩) ((winA s i).2.toNat + 1) ((winA s i).2.toNat + 1)))[i]? = some (.slice (some ⟨b34, 0, none⟩) ((winA s i).2.toNat + 1) ((winA s i).2.toNat + 1)) := List.getElem?_set_self (by omega)
    generalize hvs2 : vs.set i (.slice (some ⟨b34, 0, none⟩) ((winA s i).2.toNat + 1) ((winA s i).2.toNat + 1)) = vs2 at hS hvi
    have hvl2 : vs2.length = s.steps.length := by rw [← hvs2, List.length_set]; exact hvl
    have hT2 : TabK c s start vs2 M (i + 1) := by rw [← hvs2]; exact hT.keep
    refine nil ?_
    show Code.wp _ _ _ _ _
    refine seq ?_
    refine region ?_
    refine sv (yMove h2) ?_
    refine sv (yMove h10) ?_
    refine sv (yIxa rfl haw2 rfl Try.runUnderlying62 Try.sizeOf86 (by omega) (by omega)) ?_
    refine sv (fa86_0 rfl) ?_
    refine sv (yLd rfl Try.isAgg3 ((hcsw2.ext hS.ext).at (j := 0) rfl)) ?_
    refine sv (yAsg rfl) ?_
    refine nil ?_
    show Code.wp _ _ _ _ _
    refine block ?_
    refine loop (fun f w zz => ∃ (mm : Nat) (bl : List Bool), f 2 = .slice aw (winL s.steps).length cw ∧ f 3 = .int .i64 start ∧ f 4 = .pointer (some ⟨b4, 0, none⟩) ∧ f 5 = .pointer (some ⟨b5, 0, none⟩) ∧ f 9 = .slice (some ⟨b17, 0, none⟩) s.steps.length s.steps.length ∧ f 10 = .int .i64 (i : Int) ∧ f 11 = .int .i64 (mm : Int) ∧ StX [] w0 w [blk b34 (bl.map Value.bool) 4, packI M, blk b17 vs2 111, blk b5 [.string s.name, .slice ax s.steps.length cps] 29, blk b4 [.slice a c.ops.length cap, .slice ak c.keys.length ck, .slice an c.kinds.length cn] 26] ∧ ((winA s i).1 ≤ (mm : Int) ∧ mm ≤ (winA s i).2.toNat + 1) ∧ (bl.length = (winA s i).2.toNat + 1) ∧ (∀ j, j < (winA s i).2.toNat + 1 → bl[j]? = some (if j < mm then (decide ((winA s i).1 ≤ (j : Int)) && canS c s i (start + j)) else false)) ∧ zz = (winA s i).2.toNat + 1 - mm) _ ⟨_, rfl, lo, _, h2, h3, h4, h5, h9, h10, rfl.trans (congrArg (Value.int .i64) hlo), hS, (⟨by omega, by omega⟩), (List.length_replicate), (fun j hj => by rw [List.getElem?_replicate, if_pos hj]; split; rw [decide_eq_false (by omega)]; rfl; rfl), rfl⟩ ?_
    clear hS
    rintro f w _ ⟨mm, bl, h2, h3, h4, h5, h9, h10, h11, hS, hmm, hbl, hbv, rfl⟩
    refine seq ?_
    refine seq ?_
    refine region ?_
    refine sv (yMove h11) ?_
    refine sv (yMove h2) ?_
    refine sv (yMove h10) ?_
    refine sv (yIxa rfl haw2 rfl Try.runUnderlying62 Try.sizeOf86 (by omega) (by omega)) ?_
    refine sv (fa86_1 rfl) ?_
    refine sv (yLd rfl Try.isAgg3 ((hcsw2.ext hS.ext).at (j := 1) rfl)) ?_
    refine sv (yLeq rfl rfl) ?_
    refine nil ?_
    show Code.wp _ _ _ _ _
    refine cond rfl (fun c47 => ?_) (fun c47 => ?_)
    ·
      simp only [Bool.and_eq_true, Bool.or_eq_true, Bool.and_eq_false_iff, Bool.or_eq_false_iff, decide_eq_true_eq, decide_eq_false_iff_not, Bool.not_eq_true, Bool.not_eq_false, Bool.not_not, Bool.not_eq_eq_eq_not, Bool.not_true, Bool.not_false, Bool.false_eq_true, Bool.true_eq_false, ne_eq, Decidable.not_not, not_false_eq_true, not_true_eq_false] at c47
      refine skip ?_
      show Code.wp _ _ _ _ _
      refine seq ?_
      refine block ?_
      refine seq ?_
      refine region ?_
      refine sv (yMove h3) ?_
      refine sv (yMove h11) ?_
      refine sv (yAdd rfl rfl ⟨by omega, by omega⟩) ?_
      refine scall Try.call46 (.cons rfl .nil) c_rminute ?_
      rintro _ w ⟨rfl, hE⟩; replace hS := hS.step hE; clear hE
      refine sv (yAsg rfl) ?_
      refine nil ?_
      show Code.wp _ _ _ _ _
      refine seqJ (n := 112) (fun f w => f 2 = .slice aw (winL s.steps).length cw ∧ f 3 = .int .i64 start ∧ f 4 = .pointer (some ⟨b4, 0, none⟩) ∧ f 5 = .pointer (some ⟨b5, 0, none⟩) ∧ f 9 = .slice (some ⟨b17, 0, none⟩) s.steps.length s.steps.length ∧ f 10 = .int .i64 (i : Int) ∧ f 11 = .int .i64 (mm : Int) ∧ f 12 = .bool (baseP c s i (start + (mm : Int))) ∧ StX [] w0 w [blk b34 (bl.map Value.bool) 4, packI M, blk b17 vs2 111, blk b5 [.string s.name, .slice ax s.steps.length cps] 29, blk b4 [.slice a c.ops.length cap, .slice ak c.keys.length ck, .slice an c.kinds.length cn] 26] ∧ True) ?_ ?_
      ·
        refine seq ?_
        refine region ?_
        refine sv (yMove rfl) ?_
        refine nil ?_
        show Code.wp _ _ _ _ _
        refine cond rfl (fun c54 => ?_) (fun c54 => ?_)
        ·
          refine region_draw mixed (by kernel_rfl) hS ?_
          refine qv (fun w hS => (yLdBA h4 Try.isAgg26 Try.sizeOf26 (hS.at _) rfl rfl)) ?_
          refine qv (fun w hS => (fa29_1 h5)) ?_
          refine qv (fun w hS => (yLdB rfl Try.isAgg27 (hS.at _) rfl)) ?_
          refine qv (fun w hS => (yMove h10)) ?_
          refine qv (fun w hS => (yIxa rfl haq rfl Try.runUnderlying27 Try.sizeOf89 (by omega) (by omega))) ?_
          refine qv (fun w hS => (fa89_0 rfl)) ?_
          refine qv (fun w hS => (yLd rfl Try.isAgg3 ((hcsq.ext hS.ext).at (j := 0) rfl))) ?_
          refine qv (fun w hS => (yMove h3)) ?_
          refine qv (fun w hS => (yMove h11)) ?_
          refine qv (fun w hS => (yAdd rfl rfl ⟨by omega, by omega⟩)) ?_
          refine qcall Try.call72 (.cons rfl (.cons rfl (.cons rfl .nil))) (fun w hS => (c_rable (h.ext hS.ext) hsx.kind)) ?_
          refine qv (fun w hS => (yMove rfl)) ?_
          refine qv (fun w hS => (yExt rfl rfl)) ?_
          refine qv (fun w hS => (yExt rfl rfl)) ?_
          refine qv (fun w hS => (yExt rfl rfl)) ?_
          refine qv (fun w hS => (yAsg rfl)) ?_
          clear hS; refine qnil (fun w hS => ?_)
          exact ⟨_, rfl, h2, h3, h4, h5, h9, h10, h11, rfl.trans (congrArg Value.bool (base_yes hxq c54)), hS, trivial⟩
        ·
          refine skip ?_
          exact ⟨_, rfl, h2, h3, h4, h5, h9, h10, h11, rfl.trans (congrArg Value.bool (base_no c54)), hS, trivial⟩
      ·
        clear hS; rintro f w ⟨h2, h3, h4, h5, h9, h10, h11, h12, hS, -⟩
        refine seq ?_
        refine seq ?_
        refine region ?_
        refine sv (yMove h10) ?_
        refine sv (yAdd rfl rfl ⟨by omega, by omega⟩) ?_
        refine sv (yAsg rfl) ?_
        refine nil ?_
        show Code.wp _ _ _ _ _
        refine block ?_
        refine loop (fun f w zz => ∃ (k : Nat), f 2 = .slice aw (winL s.steps).length cw ∧ f 3 = .int .i64 start ∧ f 4 = .pointer (some ⟨b4, 0, none⟩) ∧ f 5 = .pointer (some ⟨b5, 0, none⟩) ∧ f 9 = .slice (some ⟨b17, 0, none⟩) s.steps.length s.steps.length ∧ f 10 = .int .i64 (i : Int) ∧ f 11 = .int .i64 (mm : Int) ∧ f 12 = .bool (accK c s i (start + (mm : Int)) k) ∧ f 13 = .int .i64 (k : Int) ∧ StX [] w0 w [blk b34 (bl.map Value.bool) 4, packI M, blk b17 vs2 111, blk b5 [.string s.name, .slice ax s.steps.length cps] 29, blk b4 [.slice a c.ops.length cap, .slice ak c.keys.length ck, .slice an c.kinds.length cn] 26] ∧ (i + 1 ≤ k ∧ k ≤ s.steps.length) ∧ zz = s.steps.length - k) _ ⟨_, rfl, i + 1, h2, h3, h4, h5, h9, h10, h11, h12.trans (congrArg Value.bool (acc_first hok.steps (by omega) _ (i + 1) (Nat.le_refl _)).symm), rfl, hS, (⟨Nat.le_refl _, by omega⟩), rfl⟩ ?_
        clear hS
        rintro f w _ ⟨k, h2, h3, h4, h5, h9, h10, h11, h12, h13, hS, hk, rfl⟩
        refine seq ?_
        refine seq ?_
        refine region ?_
        refine sv (yMove h13) ?_
        refine sv (fa29_1 h5) ?_
        refine sv (yLdB rfl Try.isAgg27 (hS.at _) rfl) ?_
        refine sv (yLen rfl Try.underlying27) ?_
        refine sv (yLss rfl rfl) ?_
        refine sv (yMove rfl) ?_
        refine sg rfl rfl rfl (fun g => (yMove h12)) (fun v78 g78 => ?_)
        refine sv (yAnd rfl (fun hB => (g78.1 hB)) rfl) ?_
        refine nil ?_
        show Code.wp _ _ _ _ _
        refine cond rfl (fun c79 => ?_) (fun c79 => ?_)
        ·
          simp only [Bool.and_eq_true, Bool.or_eq_true, Bool.and_eq_false_iff, Bool.or_eq_false_iff, decide_eq_true_eq, decide_eq_false_iff_not, Bool.not_eq_true, Bool.not_eq_false, Bool.not_not, Bool.not_eq_eq_eq_not, Bool.not_true, Bool.not_false, Bool.false_eq_true, Bool.true_eq_false, ne_eq, Decidable.not_not, not_false_eq_true, not_true_eq_false] at c79
          refine skip ?_
          show Code.wp _ _ _ _ _
          refine seq ?_
          refine block ?_
          refine seq ?_
          refine region ?_
          obtain ⟨y, hxk, hdk⟩ := drop_of (l := s.steps) (k := k) (by omega)
          obtain ⟨bk, ok, csk, hak, hlenk, hcsk, hRk⟩ := hels (k) (by omega)
          obtain rfl : y = s.steps[k] := (List.getElem?_eq_some_iff.1 hxk).2.symm
          generalize s.steps[k] = y at hxk hdk hRk
          obtain ⟨rfl, hyi⟩ := hRk
          have hsy := hok.steps k y hxk
          have hy1 := hsy.least
          have hy2 := hsy.most
          obtain ⟨qk, hvk, hMk⟩ := hT2 k hk.1 (by omega)
          refine sv (fa29_1 h5) ?_
          refine sv (yLdB rfl Try.isAgg27 (hS.at _) rfl) ?_
          refine sv (yMove h13) ?_
          refine sv (yIxa rfl hak rfl Try.runUnderlying27 Try.sizeOf89 (by omega) (by omega)) ?_
          refine sv (fa89_2 rfl) ?_
          refine sv (yLd rfl Try.isAgg3 ((hcsk.ext hS.ext).at (j := 2) rfl)) ?_
          refine sv (yMove h10) ?_
          refine sv (yEql rfl rfl) ?_
          refine nil ?_
          show Code.wp _ _ _ _ _
          refine cond rfl (fun c89 => ?_) (fun c89 => ?_)
          ·
            simp only [Bool.and_eq_true, Bool.or_eq_true, Bool.and_eq_false_iff, Bool.or_eq_false_iff, decide_eq_true_eq, decide_eq_false_iff_not, Bool.not_eq_true, Bool.not_eq_false, Bool.not_not, Bool.not_eq_eq_eq_not, Bool.not_true, Bool.not_false, Bool.false_eq_true, Bool.true_eq_false, ne_eq, Decidable.not_not, not_false_eq_true, not_true_eq_false] at c89
            refine region_draw mixed (by kernel_rfl) hS ?_
            have hwk := winA_after hok hxk c89
            have hlk := tab_len c s start k
            rw [hwk] at hlk
            have hbk := winA_bd hok (show k < s.steps.length by omega)
            rw [hwk] at hbk
            simp only [] at hlk hbk
            refine qv (fun w hS => (fa29_1 h5)) ?_
            refine qv (fun w hS => (yLdB rfl Try.isAgg27 (hS.at _) rfl)) ?_
            refine qv (fun w hS => (yMove h13)) ?_
            refine qv (fun w hS => (yIxa rfl hak rfl Try.runUnderlying27 Try.sizeOf89 (by omega) (by omega))) ?_
            refine qv (fun w hS => (yLdA rfl Try.isAgg89 Try.sizeOf89 (hcsk.ext hS.ext) rfl)) ?_
            refine qv (fun w hS => (yMove h9)) ?_
            refine qv (fun w hS => (yMove h13)) ?_
            refine qv (fun w hS => (yIx0 rfl rfl Try.runUnderlying107 Try.sizeOf111 (by omega))) ?_
            refine qv (fun w hS => (yLdB rfl Try.isAgg111 (hS.at _) (by rw [Nat.mul_one]; exact hvk))) ?_
            refine qv (fun w hS => (yMove h11)) ?_
            refine qcall Try.call48 (.cons rfl (.cons rfl (.cons rfl .nil))) (fun w hS => (c_rear (bools_sl (blk_ok (hS.inpack (by simp) hMk)) (by omega)) ⟨by omega, by omega⟩ (by omega) (by omega) hy1.2)) ?_
            refine qv (fun w hS => (yMove rfl)) ?_
            refine qv (fun w hS => (yExt rfl rfl)) ?_
            refine qv (fun w hS => (yExt rfl rfl)) ?_
            refine qv (fun w hS => (yAsg rfl)) ?_
            clear hS; refine qnil (fun w hS => ?_)
            show Code.wp _ _ _ _ _
            refine region ?_
            refine sv (yMove h13) ?_
            refine sv (yAdd rfl rfl ⟨by omega, by omega⟩) ?_
            refine sv (yAsg rfl) ?_
            refine nil ?_
            exact ⟨_, _, rfl, ⟨k + 1, h2, h3, h4, h5, h9, h10, h11, rfl.trans (congrArg Value.bool (acc_ear hok hxk c89 hm.1 ⟨hmm.1, by omega⟩ c79.2)), rfl, hS, (⟨by omega, by omega⟩), rfl⟩, by omega⟩
          ·
            simp only [Bool.and_eq_true, Bool.or_eq_true, Bool.and_eq_false_iff, Bool.or_eq_false_iff, decide_eq_true_eq, decide_eq_false_iff_not, Bool.not_eq_true, Bool.not_eq_false, Bool.not_not, Bool.not_eq_eq_eq_not, Bool.not_true, Bool.not_false, Bool.false_eq_true, Bool.true_eq_false, ne_eq, Decidable.not_not, not_false_eq_true, not_true_eq_false] at c89
            refine skip ?_
            show Code.wp _ _ _ _ _
            refine region ?_
            refine sv (yMove h13) ?_
            refine sv (yAdd rfl rfl ⟨by omega, by omega⟩) ?_
            refine sv (yAsg rfl) ?_
            refine nil ?_
            exact ⟨_, _, rfl, ⟨k + 1, h2, h3, h4, h5, h9, h10, h11, h12.trans (congrArg Value.bool (acc_skip hxk c89)), rfl, hS, (⟨by omega, by omega⟩), rfl⟩, by omega⟩
        ·
          simp only [Bool.and_eq_true, Bool.or_eq_true, Bool.and_eq_false_iff, Bool.or_eq_false_iff, decide_eq_true_eq, decide_eq_false_iff_not, Bool.not_eq_true, Bool.not_eq_false, Bool.not_not, Bool.not_eq_eq_eq_not, Bool.not_true, Bool.not_false, Bool.false_eq_true, Bool.true_eq_false, ne_eq, Decidable.not_not, not_false_eq_true, not_true_eq_false] at c79
          have hacc := acc_done hok.steps (show i < s.steps.length by omega) (m := start + (mm : Int)) hk.2 (by rcases c79 with h9 | h9; exact .inl (by omega); exact .inr h9)
          refine exit ?_
          show Code.wp _ _ _ _ _
          refine region ?_
          refine sv (yMove h9) ?_
          refine sv (yMove h10) ?_
          refine sv (yIx0 rfl rfl Try.runUnderlying107 Try.sizeOf111 (by omega)) ?_
          refine sv (yLdB rfl Try.isAgg111 (hS.at _) (by rw [Nat.mul_one]; exact hvi)) ?_
          refine sv (yMove h11) ?_
          refine sv (yMove h12) ?_
          refine sv (yIx0 rfl rfl Try.runUnderlying111 Try.sizeOf4 (by omega)) ?_
          refine sst (vs := [.bool (canS c s i (start + (mm : Int)))]) hS rfl (rfl.trans (congrArg Value.bool hacc)) Try.sizeOf4 rfl rfl (by rw [Nat.ble_eq, List.length_map]; omega) rfl ?_; clear hS; intro w hS
          refine nil ?_
          show Code.wp _ _ _ _ _
          refine region ?_
          refine sv (yMove h11) ?_
          refine sv (yAdd rfl rfl ⟨by omega, by omega⟩) ?_
          refine sv (yAsg rfl) ?_
          refine nil ?_
          exact ⟨_, _, rfl, ⟨mm + 1, bl.set mm (canS c s i (start + (mm : Int))), h2, h3, h4, h5, h9, h10, rfl, (by rw [← splice_bool (by omega)]; exact hS), (⟨by omega, by omega⟩), (by simpa using hbl), (set_get (A := fun (j : Nat) => decide ((winA s i).1 ≤ (j : Int)) && canS c s i (start + j)) (B := fun _ => false) hbl (by omega) (by rw [decide_eq_true hmm.1, Bool.true_and]) hbv), rfl⟩, by omega⟩
    ·
      simp only [Bool.and_eq_true, Bool.or_eq_true, Bool.and_eq_false_iff, Bool.or_eq_false_iff, decide_eq_true_eq, decide_eq_false_iff_not, Bool.not_eq_true, Bool.not_eq_false, Bool.not_not, Bool.not_eq_eq_eq_not, Bool.not_true, Bool.not_false, Bool.false_eq_true, Bool.true_eq_false, ne_eq, Decidable.not_not, not_false_eq_true, not_true_eq_false] at c47
      obtain rfl : bl = tab c s start i := tab_eq rfl hbl (by omega) hbv
      refine exit ?_
      show Code.wp _ _ _ _ _
      refine region ?_
      refine sv (yMove h10) ?_
      refine sv (ySub rfl rfl ⟨by omega, by omega⟩) ?_
      refine sv (yAsg rfl) ?_
      refine nil ?_
      exact ⟨_, _, rfl, ⟨i, vs.set i (.slice (some ⟨b34, 0, none⟩) ((winA s i).2.toNat + 1) ((winA s i).2.toNat + 1)), _, h2, h3, h4, h5, h9, rfl.trans (congrArg (Value.int .i64) (by omega)), (by rw [hvs2]; exact hS.packs), (by omega), (by simpa using hvl), (hT.set (by omega) (by rw [tab_len])), rfl⟩, by omega⟩
  ·
    simp only [Bool.and_eq_true, Bool.or_eq_true, Bool.and_eq_false_iff, Bool.or_eq_false_iff, decide_eq_true_eq, decide_eq_false_iff_not, Bool.not_eq_true, Bool.not_eq_false, Bool.not_not, Bool.not_eq_eq_eq_not, Bool.not_true, Bool.not_false, Bool.false_eq_true, Bool.true_eq_false, ne_eq, Decidable.not_not, not_false_eq_true, not_true_eq_false] at c23
    obtain rfl : i = 0 := by omega
    refine exit ?_
    show Code.wp _ _ _ _ _
    refine seq ?_
    refine region ?_
    refine sv (yMove h9) ?_
    refine sv (yAsg rfl) ?_
    refine nil ?_
    show Code.wp _ _ _ _ _
    refine wp_ret ?_
    refine retQ (res1 rfl rfl) ?_
    exact ⟨b17, vs, M, rfl, hvl, hT, hS.sub (.cons_cons _ (.cons_cons _ (List.nil_sublist _)))⟩
end Go.Proofs.Ytghgnofilbnbaaa
/- part Ck41 -/
namespace Go.Proofs.Ytghgnofilbnbaaa
open Go Bx
set_option maxHeartbeats 8000000 in
/-- barrage/barrageref10.Plan -/
theorem c_rPlan {c : Crew} {cs ss : List Value} {s : Scr} {w0 : World} (h : RCrew w0 cs c) (hs : RScr w0 ss s) {start : Int} (hsi : I64 start) : CE Try.prog 16 #[.agg cs.toArray, .agg ss.toArray, .int .i64 start] w0 (fun u w' => ∃ lv, u = .tuple #[lv, .int .i64 (planE c s start)] ∧ St w0 w' [rowI lv 3 1 (planL c s start).length ((planL c s start).flatMap Bx.encI)]) := by
  obtain ⟨ov, kv, nv, rfl, hso, hsk, hsn, hrm⟩ := id h
  obtain ⟨a, cap, rfl, hcap, hmx, hel⟩ := id hso
  obtain ⟨sv, rfl, hsz, hst⟩ := id hs
  obtain ⟨ax, cps, rfl, hscap, hsmx, hels⟩ := id hst
  refine enter Try.func16 rfl Try.ntmps16 rfl ?_
  have hS := St.start w0
  refine seq ?_
  refine region ?_
  refine sbox hS rfl rfl ?_; clear hS; intro b3 w hS
  refine sbox hS rfl rfl ?_; clear hS; intro b4 w hS
  refine sv (yAsg rfl) ?_
  refine sv (yAsg rfl) ?_
  refine nil ?_
  show Code.wp _ _ _ _ _
  refine seq ?_
  refine region ?_
  refine sv (yLdBA rfl Try.isAgg26 Try.sizeOf26 (hS.at _) rfl rfl) ?_
  refine sv (yLdBA rfl Try.isAgg29 Try.sizeOf29 (hS.at _) rfl rfl) ?_
  refine scall Try.call26 (.cons rfl (.cons rfl .nil)) (c_rWindows (h.ext hS.ext) (hs.ext hS.ext)) ?_
  rintro _ w ⟨wv, rfl, hM⟩; replace hS := hS.call1 hM; clear hM
  obtain ⟨aw, cw, rfl⟩ := row_shape (hS.row wv)
  refine sv (yMove rfl) ?_
  refine sv (yExt rfl rfl) ?_
  refine sv (yExt rfl rfl) ?_
  refine sv (yAsg rfl) ?_
  refine sv (yAsg rfl) ?_
  refine nil ?_
  show Code.wp _ _ _ _ _
  refine seqJ (n := 85) (fun f w => f 2 = .int .i64 start ∧ f 3 = .pointer (some ⟨b3, 0, none⟩) ∧ f 4 = .pointer (some ⟨b4, 0, none⟩) ∧ f 8 = .slice aw (winF c s).length cw ∧ f 9 = .int .i64 (planE1 c s start) ∧ StX [] w0 w [rowI (.slice aw (winF c s).length cw) 86 2 (winF c s).length ((winF c s).flatMap pC), blk b4 [.string s.name, .slice ax s.steps.length cps] 29, blk b3 [.slice a c.ops.length cap, kv, nv] 26] ∧ True) ?_ ?_
  ·
    refine seq ?_
    refine region ?_
    refine sv (yMove rfl) ?_
    refine sv (yEql rfl rfl) ?_
    refine sv (yMove rfl) ?_
    refine sg rfl rfl rfl (fun g => (yMove rfl)) (fun v25 g25 => ?_)
    refine sgc hS rfl rfl rfl Try.call46 (fun g => (.cons (g25.1 g) .nil)) (fun g => c_rminute) ?_; clear hS; intro v26 w hS g26
    refine sg rfl rfl rfl (fun g => (yNot (g26.1 g))) (fun v27 g27 => ?_)
    refine sv (yAnd rfl (fun hB => (g27.1 hB)) rfl) ?_
    refine nil ?_
    show Code.wp _ _ _ _ _
    refine cond rfl (fun c28 => ?_) (fun c28 => ?_)
    ·
      refine region ?_
      refine sv (yAsg rfl) ?_
      refine nil ?_
      exact ⟨_, rfl, rfl, rfl, rfl, rfl, rfl.trans (congrArg (Value.int .i64) (planE1_yes c28).symm), hS, trivial⟩
    ·
      refine skip ?_
      exact ⟨_, rfl, rfl, rfl, rfl, rfl, rfl.trans (congrArg (Value.int .i64) (planE1_no c28).symm), hS, trivial⟩
  ·
    clear hS; rintro f w ⟨h2, h3, h4, h8, h9, hS, -⟩
    refine seq ?_
    refine seq ?_
    refine region ?_
    refine sv (yMove h9) ?_
    refine sv (yNeq rfl rfl) ?_
    refine nil ?_
    show Code.wp _ _ _ _ _
    refine cond rfl (fun c30 => ?_) (fun c30 => ?_)
    ·
      simp only [Bool.and_eq_true, Bool.or_eq_true, Bool.and_eq_false_iff, Bool.or_eq_false_iff, decide_eq_true_eq, decide_eq_false_iff_not, Bool.not_eq_true, Bool.not_eq_false, Bool.not_not, Bool.not_eq_eq_eq_not, Bool.not_true, Bool.not_false, Bool.false_eq_true, Bool.true_eq_false, ne_eq, Decidable.not_not, not_false_eq_true, not_true_eq_false] at c30
      refine seq ?_
      refine region ?_
      refine sv (yMove h9) ?_
      refine sv (yAsg rfl) ?_
      refine sv (yAsg rfl) ?_
      refine nil ?_
      show Code.wp _ _ _ _ _
      refine wp_ret (thenR ?_)
      refine retQ (res2 rfl rfl rfl) ?_
      exact ⟨_, by (rw [(planE1_bad c30).1]; try rfl), by rw [(planE1_bad c30).2]; exact (hS.nilrow 3 1).sub (.cons_cons _ (List.nil_sublist _))⟩
    ·
      simp only [Bool.and_eq_true, Bool.or_eq_true, Bool.and_eq_false_iff, Bool.or_eq_false_iff, decide_eq_true_eq, decide_eq_false_iff_not, Bool.not_eq_true, Bool.not_eq_false, Bool.not_not, Bool.not_eq_eq_eq_not, Bool.not_true, Bool.not_false, Bool.false_eq_true, Bool.true_eq_false, ne_eq, Decidable.not_not, not_false_eq_true, not_true_eq_false] at c30
      obtain ⟨hs0, hnv⟩ := planE1_ok c30
      have hok := scrOk_of hs0
      have hlen := hok.len
      have hnv2 := hnv
      rw [neverB, outB_false] at hnv2
      refine skip ?_
      show Code.wp _ _ _ _ _
      refine seq ?_
      refine region ?_
      refine sv (yLdBA h3 Try.isAgg26 Try.sizeOf26 (hS.at _) rfl rfl) ?_
      refine sv (yLdBA h4 Try.isAgg29 Try.sizeOf29 (hS.at _) rfl rfl) ?_
      refine sv (yMove h8) ?_
      refine sv (yMove h2) ?_
      refine scall Try.call47 (.cons rfl (.cons rfl (.cons rfl (.cons rfl .nil)))) (c_rcan (h.ext hS.ext) (hs.ext hS.ext) (by have h9 := sl_prs (hS.row (.slice aw (winF c s).length cw)) rfl; rw [winF_ok hs0] at h9 ⊢; exact h9) hs0 hnv2) ?_
      rintro _ w ⟨q0, vs, M, rfl, hvl, hT, hM⟩; replace hS := hS.call2 hM; clear hM
      refine sv (yAsg rfl) ?_
      refine nil ?_
      show Code.wp _ _ _ _ _
      refine seq ?_
      refine region ?_
      refine sv (yAsg rfl) ?_
      refine nil ?_
      show Code.wp _ _ _ _ _
      refine seq ?_
      refine seq ?_
      refine region ?_
      refine sv (yAsg rfl) ?_
      refine nil ?_
      show Code.wp _ _ _ _ _
      refine block ?_
      replace hS := (hS.sub (.cons_cons _ (.cons_cons _ (.cons _ (.cons_cons _ (List.nil_sublist _)))))).nilrow 3 1
      refine loop (fun f w zz => ∃ (k : Nat) (l : List Int) (lv : Value), f 2 = .int .i64 start ∧ f 4 = .pointer (some ⟨b4, 0, none⟩) ∧ f 10 = .slice (some ⟨q0, 0, none⟩) s.steps.length s.steps.length ∧ f 12 = .int .i64 (k : Int) ∧ f 11 = lv ∧ StX [] w0 w [rowI lv 3 1 l.length (l.flatMap Bx.encI), packI M, blk q0 vs 111, blk b4 [.string s.name, .slice ax s.steps.length cps] 29] ∧ (k ≤ s.steps.length) ∧ (l.length = k) ∧ (∀ y ∈ l, 0 ≤ y ∧ y ≤ 100000) ∧ (GoodP c s start l) ∧ (planR c s start s.steps 0 [] = planR c s start (s.steps.drop k) k l) ∧ zz = s.steps.length - k) _ ⟨_, rfl, 0, [], _, h2, h4, rfl, rfl, rfl, hS, (Nat.zero_le _), (rfl), (fun y hy => (List.not_mem_nil hy).elim), (good_nil c s start), (rfl), rfl⟩ ?_
      clear hS
      rintro f w _ ⟨k, l, lv, h2, h4, h10, h12, h11, hS, hk, hl, hbd, hg, hP, rfl⟩
      refine seq ?_
      refine seq ?_
      refine region ?_
      refine sv (yMove h12) ?_
      refine sv (fa29_1 h4) ?_
      refine sv (yLdB rfl Try.isAgg27 (hS.at _) rfl) ?_
      refine sv (yLen rfl Try.underlying27) ?_
      refine sv (yLss rfl rfl) ?_
      refine nil ?_
      show Code.wp _ _ _ _ _
      refine cond rfl (fun c41 => ?_) (fun c41 => ?_)
      ·
        simp only [Bool.and_eq_true, Bool.or_eq_true, Bool.and_eq_false_iff, Bool.or_eq_false_iff, decide_eq_true_eq, decide_eq_false_iff_not, Bool.not_eq_true, Bool.not_eq_false, Bool.not_not, Bool.not_eq_eq_eq_not, Bool.not_true, Bool.not_false, Bool.false_eq_true, Bool.true_eq_false, ne_eq, Decidable.not_not, not_false_eq_true, not_true_eq_false] at c41
        refine skip ?_
        show Code.wp _ _ _ _ _
        refine seq ?_
        refine block ?_
        refine seq ?_
        refine region ?_
        obtain ⟨y, hxv, hdv⟩ := drop_of (l := s.steps) (k := k) (by omega)
        obtain ⟨bv, ov, csv, hav, hlenv, hcsv, hRv⟩ := hels (k) (by omega)
        obtain rfl : y = s.steps[k] := (List.getElem?_eq_some_iff.1 hxv).2.symm
        generalize s.steps[k] = y at hxv hdv hRv
        obtain ⟨rfl, hyi⟩ := hRv
        have hsy := hok.steps k y hxv
        have hya := hsy.after
        have hyl := hsy.least
        have hym := hsy.most
        obtain ⟨hwb1, hwb2, hwb3⟩ := winA_bef hs0 hg hl hxv
        have hbb := befP_bd (x := y) hnv2 hbd
        refine sv (yAsg rfl) ?_
        refine nil ?_
        show Code.wp _ _ _ _ _
        refine seqJ (n := 85) (fun f w => ∃ (lv : Value), f 2 = .int .i64 start ∧ f 4 = .pointer (some ⟨b4, 0, none⟩) ∧ f 10 = .slice (some ⟨q0, 0, none⟩) s.steps.length s.steps.length ∧ f 12 = .int .i64 (k : Int) ∧ f 11 = lv ∧ f 13 = .int .i64 (befP start l y - start) ∧ StX [] w0 w [rowI lv 3 1 l.length (l.flatMap Bx.encI), packI M, blk q0 vs 111, blk b4 [.string s.name, .slice ax s.steps.length cps] 29] ∧ True) ?_ ?_
        ·
          refine seq ?_
          refine region ?_
          refine sv (fa29_1 h4) ?_
          refine sv (yLdB rfl Try.isAgg27 (hS.at _) rfl) ?_
          refine sv (yMove h12) ?_
          refine sv (yIxa rfl hav rfl Try.runUnderlying27 Try.sizeOf89 (by omega) (by omega)) ?_
          refine sv (fa89_2 rfl) ?_
          refine sv (yLd rfl Try.isAgg3 ((hcsv.ext hS.ext).at (j := 2) rfl)) ?_
          refine sv (yGeq rfl rfl) ?_
          refine nil ?_
          show Code.wp _ _ _ _ _
          refine cond rfl (fun c50 => ?_) (fun c50 => ?_)
          ·
            simp only [Bool.and_eq_true, Bool.or_eq_true, Bool.and_eq_false_iff, Bool.or_eq_false_iff, decide_eq_true_eq, decide_eq_false_iff_not, Bool.not_eq_true, Bool.not_eq_false, Bool.not_not, Bool.not_eq_eq_eq_not, Bool.not_true, Bool.not_false, Bool.false_eq_true, Bool.true_eq_false, ne_eq, Decidable.not_not, not_false_eq_true, not_true_eq_false] at c50
            refine region ?_
            obtain ⟨g, chl, rfl, -⟩ := row_some (hS.row lv) (by omega)
            obtain ⟨qa, hqa⟩ := Int.eq_ofNat_of_zero_le c50
            obtain ⟨z, hz, -⟩ := drop_of (l := l) (k := qa) (by omega)
            have hzb := hbd z (List.mem_of_getElem? hz)
            refine sv (yMove h11) ?_
            refine sv (fa29_1 h4) ?_
            refine sv (yLdB rfl Try.isAgg27 (hS.at _) rfl) ?_
            refine sv (yMove h12) ?_
            refine sv (yIxa rfl hav rfl Try.runUnderlying27 Try.sizeOf89 (by omega) (by omega)) ?_
            refine sv (fa89_2 rfl) ?_
            refine sv (yLd rfl Try.isAgg3 ((hcsv.ext hS.ext).at (j := 2) rfl)) ?_
            refine sv (yIx0 rfl (rfl.trans (congrArg (Value.int .i64) hqa)) Try.runUnderlying30 Try.sizeOf3 (by omega)) ?_
            refine sv (yLd rfl Try.isAgg3 ((flat_cells0 (enc := Bx.encI) encI_len (row_at (hS.row (.slice (some ⟨g, 0, none⟩) l.length chl)) rfl (by omega)) hz).one)) ?_
            refine sv (yMove h2) ?_
            refine sv (ySub rfl rfl ⟨by omega, by omega⟩) ?_
            refine sv (yAsg rfl) ?_
            refine nil ?_
            exact ⟨_, rfl, _, h2, h4, h10, h12, h11, rfl.trans (congrArg (Value.int .i64) (by rw [befP_at hqa hz])), hS, trivial⟩
          ·
            simp only [Bool.and_eq_true, Bool.or_eq_true, Bool.and_eq_false_iff, Bool.or_eq_false_iff, decide_eq_true_eq, decide_eq_false_iff_not, Bool.not_eq_true, Bool.not_eq_false, Bool.not_not, Bool.not_eq_eq_eq_not, Bool.not_true, Bool.not_false, Bool.false_eq_true, Bool.true_eq_false, ne_eq, Decidable.not_not, not_false_eq_true, not_true_eq_false] at c50
            refine skip ?_
            exact ⟨_, rfl, _, h2, h4, h10, h12, h11, rfl.trans (congrArg (Value.int .i64) (by rw [befP_neg (by omega)]; omega)), hS, trivial⟩
        ·
          clear hS; rintro f w ⟨lv, h2, h4, h10, h12, h11, h13, hS, -⟩
          refine seq ?_
          refine region_draw mixed (by kernel_rfl) hS ?_
          obtain ⟨qk, hvk, hMk⟩ := hT k (Nat.zero_le _) (by omega)
          have hlk := tab_len c s start k
          have hbk := winA_bd hok (show k < s.steps.length by omega)
          refine qv (fun w hS => (fa29_1 h4)) ?_
          refine qv (fun w hS => (yLdB rfl Try.isAgg27 (hS.at _) rfl)) ?_
          refine qv (fun w hS => (yMove h12)) ?_
          refine qv (fun w hS => (yIxa rfl hav rfl Try.runUnderlying27 Try.sizeOf89 (by omega) (by omega))) ?_
          refine qv (fun w hS => (yLdA rfl Try.isAgg89 Try.sizeOf89 (hcsv.ext hS.ext) rfl)) ?_
          refine qv (fun w hS => (yMove h10)) ?_
          refine qv (fun w hS => (yMove h12)) ?_
          refine qv (fun w hS => (yIx0 rfl rfl Try.runUnderlying107 Try.sizeOf111 (by omega))) ?_
          refine qv (fun w hS => (yLdB rfl Try.isAgg111 (hS.at _) (by rw [Nat.mul_one]; exact hvk))) ?_
          refine qv (fun w hS => (yMove h13)) ?_
          refine qcall Try.call48 (.cons rfl (.cons rfl (.cons rfl .nil))) (fun w hS => (c_rear (bools_sl (blk_ok (hS.inpack (by simp) hMk)) (by omega)) ⟨by omega, by omega⟩ (by omega) (by omega) hyl.2)) ?_
          refine qv (fun w hS => (yMove rfl)) ?_
          refine qv (fun w hS => (yExt rfl rfl)) ?_
          refine qv (fun w hS => (yExt rfl rfl)) ?_
          refine qv (fun w hS => (yAsg rfl)) ?_
          refine qv (fun w hS => (yAsg rfl)) ?_
          clear hS; refine qnil (fun w hS => ?_)
          show Code.wp _ _ _ _ _
          refine seq ?_
          refine seq ?_
          refine region ?_
          obtain ⟨hear, hearf⟩ := ear_first (c := c) (start := start) (b := befP start l y - start) hxv (by omega) hwb2 hwb3 hnv2.1
          rw [Int.sub_add_cancel] at hear hearf
          refine sv (yMove rfl) ?_
          refine sv (yNot rfl) ?_
          refine nil ?_
          show Code.wp _ _ _ _ _
          refine cond rfl (fun c77 => ?_) (fun c77 => ?_)
          ·
            have hneg : firstP c s k (befP start l y) < 0 := by
              apply Int.not_le.1
              intro h9
              rw [hear.2 h9] at c77
              cases c77
            refine seq ?_
            refine region ?_
            refine sv (yAsg rfl) ?_
            refine sv (yAsg rfl) ?_
            refine nil ?_
            show Code.wp _ _ _ _ _
            refine wp_ret (thenR (blockR (thenR (thenR (blockR (thenR ?_))))))
            refine retQ (res2 rfl rfl rfl) ?_
            exact ⟨_, by (rw [(planE_none hs0 hnv (by rw [hP, hdv, planR_cons, if_pos hneg])).1]; try rfl), by rw [(planE_none hs0 hnv (by rw [hP, hdv, planR_cons, if_pos hneg])).2]; exact (hS.nilrow 3 1).sub (.cons_cons _ (List.nil_sublist _))⟩
          ·
            have hpos : 0 ≤ firstP c s k (befP start l y) := hear.1 (by simpa using c77)
            have hearv := hearf hpos
            have hfb := firstP_bd hok.steps (show k < s.steps.length by omega) (b := befP start l y) (by omega)
            refine skip ?_
            show Code.wp _ _ _ _ _
            refine region ?_
            refine sv (yMove h11) ?_
            refine sv (yMove h2) ?_
            refine sv (yMove rfl) ?_
            refine sv (yAdd rfl rfl ⟨by omega, by omega⟩) ?_
            refine sbslice hS Try.underlying30 Try.sizeOf3 rfl Try.zeroValue3 rfl (.cons rfl rfl .nil) rfl ?_; clear hS; intro b82 w hS
            refine sapp (bytes := 8) (size := 1) (v := lv) (m := 1) hS rfl rfl Try.underlying30 ti3 rfl rfl rfl rfl (by decide) (blk_cells (hS.at _)) rfl rfl (by omega) (by omega) ?_; clear hS; intro v83 w hS
            refine sv (yAsg rfl) ?_
            refine nil ?_
            show Code.wp _ _ _ _ _
            refine region ?_
            refine sv (yMove h12) ?_
            refine sv (yAdd rfl rfl ⟨by omega, by omega⟩) ?_
            refine sv (yAsg rfl) ?_
            refine nil ?_
            exact ⟨_, _, rfl, ⟨k + 1, l ++ [firstP c s k (befP start l y)], v83, h2, h4, h10, rfl, rfl, (by rw [List.flatMap_append, List.length_append, ← hearv, Int.add_comm (earF _ _ _).1]; exact hS.sub (.cons _ (List.Sublist.refl _))), (by omega), (by simp [hl]), (fun z hz => by rcases List.mem_append.1 hz with hz | hz; exact hbd z hz; rw [List.mem_singleton.1 hz]; exact firstP_bd hok.steps (by omega) (by omega)), (by subst hl; exact good_snoc hok hg hxv hpos), (by rw [hP, hdv, planR_cons, if_neg (by omega)]), rfl⟩, by omega⟩
      ·
        simp only [Bool.and_eq_true, Bool.or_eq_true, Bool.and_eq_false_iff, Bool.or_eq_false_iff, decide_eq_true_eq, decide_eq_false_iff_not, Bool.not_eq_true, Bool.not_eq_false, Bool.not_not, Bool.not_eq_eq_eq_not, Bool.not_true, Bool.not_false, Bool.false_eq_true, Bool.true_eq_false, ne_eq, Decidable.not_not, not_false_eq_true, not_true_eq_false] at c41
        refine exit ?_
        show Code.wp _ _ _ _ _
        refine seq ?_
        refine region ?_
        refine sv (yMove h11) ?_
        refine sv (yAsg rfl) ?_
        refine sv (yAsg rfl) ?_
        refine nil ?_
        show Code.wp _ _ _ _ _
        refine wp_ret ?_
        refine retQ (res2 rfl rfl rfl) ?_
        obtain rfl : k = s.steps.length := by omega
        have hfin := planE_some hs0 hnv (l := l) (by rw [hP, List.drop_length]; rfl)
        exact ⟨lv, by (rw [hfin.1]; try rfl), by rw [hfin.2]; exact hS.sub (.cons_cons _ (List.nil_sublist _))⟩
set_option maxHeartbeats 4000000 in
/-- barrage/barragelaw10.CrewPlans -/
theorem w_CrewPlans {c : Crew} {cs ss : List Value} {s : Scr} {w0 : World} (h : RCrew w0 cs c) (hs : RScr w0 ss s) {start : Int} (hsi : I64 start) : CV Try.prog 3 #[.agg cs.toArray, .agg ss.toArray, .int .i64 start] w0 (.bool true) := by
  obtain ⟨ov, kv, nv, rfl, hso, hsk, hsn, hrm⟩ := id h
  obtain ⟨a, cap, rfl, hcap, hmx, hel⟩ := id hso
  obtain ⟨sv, rfl, hsz, hst⟩ := id hs
  obtain ⟨ax, cps, rfl, hscap, hsmx, hels⟩ := id hst
  refine enter Try.func3 rfl Try.ntmps3 rfl ?_
  have hS := St.start w0
  refine seq ?_
  refine region ?_
  refine sbox hS rfl rfl ?_; clear hS; intro b3 w hS
  refine sbox hS rfl rfl ?_; clear hS; intro b4 w hS
  refine sv (yAsg rfl) ?_
  refine nil ?_
  show Code.wp _ _ _ _ _
  refine seq ?_
  refine region ?_
  refine sv (yLdBA rfl Try.isAgg26 Try.sizeOf26 (hS.at _) rfl rfl) ?_
  refine sv (yLdBA rfl Try.isAgg29 Try.sizeOf29 (hS.at _) rfl rfl) ?_
  refine sv (yMove rfl) ?_
  refine scall Try.call15 (.cons rfl (.cons rfl (.cons rfl .nil))) (c_Plan (h.ext hS.ext) (hs.ext hS.ext)) ?_
  rintro _ w ⟨pv, rfl, hM⟩; replace hS := hS.call1 hM; clear hM
  refine sv (yMove rfl) ?_
  refine sv (yExt rfl rfl) ?_
  refine sv (yExt rfl rfl) ?_
  refine sv (yAsg rfl) ?_
  refine sv (yAsg rfl) ?_
  refine nil ?_
  show Code.wp _ _ _ _ _
  refine seq ?_
  refine region ?_
  refine sv (yLdBA rfl Try.isAgg26 Try.sizeOf26 (hS.at _) rfl rfl) ?_
  refine sv (yLdBA rfl Try.isAgg29 Try.sizeOf29 (hS.at _) rfl rfl) ?_
  refine sv (yMove rfl) ?_
  refine scall Try.call16 (.cons rfl (.cons rfl (.cons rfl .nil))) (c_rPlan (h.ext hS.ext) (hs.ext hS.ext) hsi) ?_
  rintro _ w ⟨qv, rfl, hM⟩; replace hS := hS.call1 hM; clear hM
  refine sv (yMove rfl) ?_
  refine sv (yExt rfl rfl) ?_
  refine sv (yExt rfl rfl) ?_
  refine sv (yAsg rfl) ?_
  refine sv (yAsg rfl) ?_
  refine nil ?_
  show Code.wp _ _ _ _ _
  refine seq ?_
  refine region ?_
  refine sv (yMove rfl) ?_
  refine sv (yMove rfl) ?_
  refine scall Try.call17 (.cons rfl (.cons rfl .nil)) (c_Ints (sl_ints (hS.row pv) rfl (fun y hy => by have := planL_bd c s start y hy; exact ⟨by omega, by omega⟩)) (sl_ints (hS.row qv) rfl (fun y hy => by have := planL_bd c s start y hy; exact ⟨by omega, by omega⟩))) ?_
  rintro _ w ⟨rfl, hE⟩; replace hS := hS.step hE; clear hE
  refine sv (yMove rfl) ?_
  refine sg rfl rfl rfl (fun g => (yMove rfl)) (fun v29 g29 => ?_)
  refine sg rfl rfl rfl (fun g => (yMove rfl)) (fun v30 g30 => ?_)
  refine sg rfl rfl rfl (fun g => (yEql (g29.1 g) (g30.1 g))) (fun v31 g31 => ?_)
  refine sv (yAnd rfl (fun hB => (g31.1 hB)) rfl) ?_
  refine sv (yMove rfl) ?_
  refine sgc hS rfl rfl rfl Try.call18 (fun g => .nil) (fun g => c_Awake) ?_; clear hS; intro v34 w hS g34
  refine sv (yAnd rfl (fun hB => (g34.1 hB)) rfl) ?_
  refine sv (yAsg rfl) ?_
  refine nil ?_
  show Code.wp _ _ _ _ _
  refine wp_ret ?_
  exact retV (res1 rfl (eqB (by simp))) hS.ext
end Go.Proofs.Ytghgnofilbnbaaa
/- part LibM -/
namespace Bx
open Go Go.RowKit
def WOk {H : Type} (P : Program) (t : TypeId) (d : DataW H) : Prop := ∀ n ∈ d.weights P t, n ≤ 140737488351232
def RdW {α : Type} (P : Program) (t : TypeId) (R : World → List Value → α → Prop) : Prop :=
  ∀ (H : Type) (enc : TypeId × Value → H) (w : World) (base : Nat) (spare : Nat → Bool) (held : Bool) (fuel : Nat) (cs : List Value) (x : DataW H × List MemPlace), DataW.trod enc P w base spare held fuel t cs = some x → WOk P t x.1 → ∃ a, R w cs a
theorem Rd.w {α : Type} {P : Program} {t : TypeId} {R : World → List Value → α → Prop} (h : Rd P t R) : RdW P t R := fun H enc w base spare held fuel cs x hx _ => h H enc w base spare held fuel cs x hx
section
variable {P : Program} {t e : TypeId}
theorem weightsAll_mem {H : Type} {P : Program} {e : TypeId} : ∀ {l : List (DataW H)} {d : DataW H}, d ∈ l → ∀ n ∈ d.weights P e, n ∈ DataW.weightsAll P e l
  | a :: l, d, hd, n, hn => by
    unfold DataW.weightsAll
    rcases List.mem_cons.1 hd with rfl | hd
    · exact List.mem_append_left _ hn
    · exact List.mem_append_right _ (weightsAll_mem hd n hn)
theorem rdw_slice {α : Type} {R : World → List Value → α → Prop} {k bytes : Nat} (hR : RdW P e R) (hk : P.cellsOf e = k) (h0 : 0 < k) (ht : P.underlying t = some (.slice e)) (hb : P.bytesOf e = bytes) : RdW P t (fun w cs (l : List α) => ∃ v, cs = [v] ∧ Sl w k R v l ∧ l.length * bytes ≤ 140737488351232) := by
  intro H enc w base spare held fuel cs x h hW
  rcases Deep.open_slice ht h with ⟨rfl, _⟩ | ⟨a, len, cap, m, n, D, Pl, rfl, _, hl, hm, hmm, rfl, hx⟩
  · exact ⟨[], _, rfl, Sl.nil, by simp⟩
  · have hlm : len ≤ m := by rw [hmm]; split <;> omega
    rw [hk] at hx
    unfold WOk at hW
    simp only [DataW.weights, ht] at hW
    have hbd := hW _ (List.mem_cons_self ..)
    have hel : ∀ i, i < len → WOk P e (D i) := fun i hi n hn => hW n (List.mem_cons_of_mem _ (List.mem_append_left _ (weightsAll_mem (List.mem_map.2 ⟨i, List.mem_range.2 hi, rfl⟩) n hn)))
    obtain ⟨l, hll, hp⟩ := list_of (p := fun i x => ∃ cs, w.cells? base (a.add (i * k)) k = some cs ∧ R w cs x) len (fun i hi => by
      obtain ⟨cs, h1, h2⟩ := hx i (by omega)
      obtain ⟨y, hy⟩ := hR H enc w base spare held n cs _ h2 (hel i hi)
      exact ⟨y, cs, h1, hy⟩)
    refine ⟨l, _, rfl, ⟨some a, cap, by rw [hll], by omega, by simp only [maxLen] at hm; omega, fun i hi => ?_⟩, ?_⟩
    · obtain ⟨cs, h1, h2⟩ := hp i hi
      obtain ⟨cs0, h01, _⟩ := hp 0 (by omega)
      obtain ⟨_, hl0, hc0⟩ := World.cells?_some h01
      have ha := addr_of ((hc0 0 h0).trans (List.getElem?_eq_getElem (by omega)))
      obtain ⟨_, hlc, hc⟩ := World.cells?_some h1
      obtain ⟨b, o, s⟩ := a
      have hs : s = none := by
        have : (0 : Nat) * k = 0 := Nat.zero_mul k
        simp only [this, Addr.add, if_true] at ha
        simpa using ha
      subst hs
      refine ⟨b, o, cs, rfl, hlc, fun j v hv => ?_, h2⟩
      have hj : j < k := by have := (List.getElem?_eq_some_iff.1 hv).1; omega
      have := (hc j hj).trans hv
      rwa [addr_add, addr_add] at this
    · rw [hll, ← hb]
      refine Nat.le_trans ?_ hbd
      exact Nat.mul_le_mul_right _ (by simp)
theorem rdw_fields {H : Type} {enc : TypeId × Value → H} {w : World} {base : Nat} {spare : Nat → Bool} {held : Bool} {fuel : Nat} {cs : List Value} {x : DataW H × List MemPlace} {fs : Array Field} (ht : P.underlying t = some (.struct fs)) (h : DataW.trod enc P w base spare held fuel t cs = some x) (hW : WOk P t x.1) :
    cs.length = P.cellsOf t ∧ ∃ n, ∀ (i : Nat) (f : Field), fs[i]? = some f → ∃ y, DataW.trod enc P w base spare held n f.type ((cs.drop f.offset).take (P.cellsOf f.type)) = some y ∧ WOk P f.type y.1 := by
  obtain ⟨xs, n, _, rfl, hl, hxs, hf⟩ := DataW.trod_struct ht h
  refine ⟨hl, n, fun i f hi => ?_⟩
  have h1 := (Array.getElem?_eq_some_iff.1 hi).1
  have hix : i < xs.length := by omega
  refine ⟨xs[i], (hf i f hi).trans (List.getElem?_eq_getElem hix), fun m hm => hW m ?_⟩
  simp only [DataW.weights, ht]
  exact DataW.weights_mem_each (j := i) (t := f.type) (d := xs[i].1) (by simp [hi]) (by simp [hix]) m hm
end
end Bx
/- part RdF -/
namespace Go.Proofs.Ytghgnofilbnbaaa
open Go Bx
section
variable {H : Type} {enc : TypeId × Value → H} {w : World} {base : Nat} {spare : Nat → Bool} {held : Bool} {fuel : Nat} {cs : List Value} {x : DataW H × List MemPlace}
theorem rdF26 (h : DataW.trod enc Try.prog w base spare held fuel 26 cs = some x) (hW : WOk Try.prog 26 x.1) : ∃ n c0 c1 c2, cs = [c0, c1, c2] ∧ (∃ y, DataW.trod enc Try.prog w base spare held n 22 [c0] = some y ∧ WOk Try.prog 22 y.1) ∧ (∃ y, DataW.trod enc Try.prog w base spare held n 23 [c1] = some y ∧ WOk Try.prog 23 y.1) ∧ (∃ y, DataW.trod enc Try.prog w base spare held n 24 [c2] = some y ∧ WOk Try.prog 24 y.1) := by
  have z22 : Try.prog.cellsOf 22 = 1 := by kernel_rfl
  have z23 : Try.prog.cellsOf 23 = 1 := by kernel_rfl
  have z24 : Try.prog.cellsOf 24 = 1 := by kernel_rfl
  obtain ⟨hl, n, hf⟩ := rdw_fields Try.underlying26 h hW
  have hz : Try.prog.cellsOf 26 = 3 := by kernel_rfl
  rw [hz] at hl
  obtain ⟨c0, c1, c2, rfl⟩ := three_of hl
  have f0 : ∃ y, DataW.trod enc Try.prog w base spare held n 22 ((List.drop 0 [c0, c1, c2]).take (Try.prog.cellsOf 22)) = some y ∧ WOk Try.prog 22 y.1 := hf 0 _ rfl
  rw [z22] at f0
  have f1 : ∃ y, DataW.trod enc Try.prog w base spare held n 23 ((List.drop 1 [c0, c1, c2]).take (Try.prog.cellsOf 23)) = some y ∧ WOk Try.prog 23 y.1 := hf 1 _ rfl
  rw [z23] at f1
  have f2 : ∃ y, DataW.trod enc Try.prog w base spare held n 24 ((List.drop 2 [c0, c1, c2]).take (Try.prog.cellsOf 24)) = some y ∧ WOk Try.prog 24 y.1 := hf 2 _ rfl
  rw [z24] at f2
  exact ⟨n, c0, c1, c2, rfl, f0, f1, f2⟩
theorem rdF29 (h : DataW.trod enc Try.prog w base spare held fuel 29 cs = some x) (hW : WOk Try.prog 29 x.1) : ∃ n c0 c1, cs = [c0, c1] ∧ (∃ y, DataW.trod enc Try.prog w base spare held n 9 [c0] = some y ∧ WOk Try.prog 9 y.1) ∧ (∃ y, DataW.trod enc Try.prog w base spare held n 27 [c1] = some y ∧ WOk Try.prog 27 y.1) := by
  have z9 : Try.prog.cellsOf 9 = 1 := by kernel_rfl
  have z27 : Try.prog.cellsOf 27 = 1 := by kernel_rfl
  obtain ⟨hl, n, hf⟩ := rdw_fields Try.underlying29 h hW
  have hz : Try.prog.cellsOf 29 = 2 := by kernel_rfl
  rw [hz] at hl
  obtain ⟨c0, c1, rfl⟩ := two_of hl
  have f0 : ∃ y, DataW.trod enc Try.prog w base spare held n 9 ((List.drop 0 [c0, c1]).take (Try.prog.cellsOf 9)) = some y ∧ WOk Try.prog 9 y.1 := hf 0 _ rfl
  rw [z9] at f0
  have f1 : ∃ y, DataW.trod enc Try.prog w base spare held n 27 ((List.drop 1 [c0, c1]).take (Try.prog.cellsOf 27)) = some y ∧ WOk Try.prog 27 y.1 := hf 1 _ rfl
  rw [z27] at f1
  exact ⟨n, c0, c1, rfl, f0, f1⟩
theorem rdF39 (h : DataW.trod enc Try.prog w base spare held fuel 39 cs = some x) (hW : WOk Try.prog 39 x.1) : ∃ n c0 c1 c2 c3, cs = [c0, c1, c2, c3] ∧ (∃ y, DataW.trod enc Try.prog w base spare held n 29 [c0, c1] = some y ∧ WOk Try.prog 29 y.1) ∧ (∃ y, DataW.trod enc Try.prog w base spare held n 3 [c2] = some y ∧ WOk Try.prog 3 y.1) ∧ (∃ y, DataW.trod enc Try.prog w base spare held n 37 [c3] = some y ∧ WOk Try.prog 37 y.1) := by
  have z3 : Try.prog.cellsOf 3 = 1 := by kernel_rfl
  have z29 : Try.prog.cellsOf 29 = 2 := by kernel_rfl
  have z37 : Try.prog.cellsOf 37 = 1 := by kernel_rfl
  obtain ⟨hl, n, hf⟩ := rdw_fields Try.underlying39 h hW
  have hz : Try.prog.cellsOf 39 = 4 := by kernel_rfl
  rw [hz] at hl
  obtain ⟨c0, c1, c2, c3, rfl⟩ := four_of hl
  have f0 : ∃ y, DataW.trod enc Try.prog w base spare held n 29 ((List.drop 0 [c0, c1, c2, c3]).take (Try.prog.cellsOf 29)) = some y ∧ WOk Try.prog 29 y.1 := hf 0 _ rfl
  rw [z29] at f0
  have f1 : ∃ y, DataW.trod enc Try.prog w base spare held n 3 ((List.drop 2 [c0, c1, c2, c3]).take (Try.prog.cellsOf 3)) = some y ∧ WOk Try.prog 3 y.1 := hf 1 _ rfl
  rw [z3] at f1
  have f2 : ∃ y, DataW.trod enc Try.prog w base spare held n 37 ((List.drop 3 [c0, c1, c2, c3]).take (Try.prog.cellsOf 37)) = some y ∧ WOk Try.prog 37 y.1 := hf 2 _ rfl
  rw [z37] at f2
  exact ⟨n, c0, c1, c2, c3, rfl, f0, f1, f2⟩
theorem rdF42 (h : DataW.trod enc Try.prog w base spare held fuel 42 cs = some x) (hW : WOk Try.prog 42 x.1) : ∃ n c0 c1 c2, cs = [c0, c1, c2] ∧ (∃ y, DataW.trod enc Try.prog w base spare held n 9 [c0] = some y ∧ WOk Try.prog 9 y.1) ∧ (∃ y, DataW.trod enc Try.prog w base spare held n 3 [c1] = some y ∧ WOk Try.prog 3 y.1) ∧ (∃ y, DataW.trod enc Try.prog w base spare held n 40 [c2] = some y ∧ WOk Try.prog 40 y.1) := by
  have z3 : Try.prog.cellsOf 3 = 1 := by kernel_rfl
  have z9 : Try.prog.cellsOf 9 = 1 := by kernel_rfl
  have z40 : Try.prog.cellsOf 40 = 1 := by kernel_rfl
  obtain ⟨hl, n, hf⟩ := rdw_fields Try.underlying42 h hW
  have hz : Try.prog.cellsOf 42 = 3 := by kernel_rfl
  rw [hz] at hl
  obtain ⟨c0, c1, c2, rfl⟩ := three_of hl
  have f0 : ∃ y, DataW.trod enc Try.prog w base spare held n 9 ((List.drop 0 [c0, c1, c2]).take (Try.prog.cellsOf 9)) = some y ∧ WOk Try.prog 9 y.1 := hf 0 _ rfl
  rw [z9] at f0
  have f1 : ∃ y, DataW.trod enc Try.prog w base spare held n 3 ((List.drop 1 [c0, c1, c2]).take (Try.prog.cellsOf 3)) = some y ∧ WOk Try.prog 3 y.1 := hf 1 _ rfl
  rw [z3] at f1
  have f2 : ∃ y, DataW.trod enc Try.prog w base spare held n 40 ((List.drop 2 [c0, c1, c2]).take (Try.prog.cellsOf 40)) = some y ∧ WOk Try.prog 40 y.1 := hf 2 _ rfl
  rw [z40] at f2
  exact ⟨n, c0, c1, c2, rfl, f0, f1, f2⟩
theorem rdF44 (h : DataW.trod enc Try.prog w base spare held fuel 44 cs = some x) (hW : WOk Try.prog 44 x.1) : ∃ n c0 c1, cs = [c0, c1] ∧ (∃ y, DataW.trod enc Try.prog w base spare held n 3 [c0] = some y ∧ WOk Try.prog 3 y.1) ∧ (∃ y, DataW.trod enc Try.prog w base spare held n 3 [c1] = some y ∧ WOk Try.prog 3 y.1) := by
  have z3 : Try.prog.cellsOf 3 = 1 := by kernel_rfl
  obtain ⟨hl, n, hf⟩ := rdw_fields Try.underlying44 h hW
  have hz : Try.prog.cellsOf 44 = 2 := by kernel_rfl
  rw [hz] at hl
  obtain ⟨c0, c1, rfl⟩ := two_of hl
  have f0 : ∃ y, DataW.trod enc Try.prog w base spare held n 3 ((List.drop 0 [c0, c1]).take (Try.prog.cellsOf 3)) = some y ∧ WOk Try.prog 3 y.1 := hf 0 _ rfl
  rw [z3] at f0
  have f1 : ∃ y, DataW.trod enc Try.prog w base spare held n 3 ((List.drop 1 [c0, c1]).take (Try.prog.cellsOf 3)) = some y ∧ WOk Try.prog 3 y.1 := hf 1 _ rfl
  rw [z3] at f1
  exact ⟨n, c0, c1, rfl, f0, f1⟩
theorem rdF53 (h : DataW.trod enc Try.prog w base spare held fuel 53 cs = some x) (hW : WOk Try.prog 53 x.1) : ∃ n c0 c1 c2 c3 c4 c5, cs = [c0, c1, c2, c3, c4, c5] ∧ (∃ y, DataW.trod enc Try.prog w base spare held n 3 [c0] = some y ∧ WOk Try.prog 3 y.1) ∧ (∃ y, DataW.trod enc Try.prog w base spare held n 3 [c1] = some y ∧ WOk Try.prog 3 y.1) ∧ (∃ y, DataW.trod enc Try.prog w base spare held n 3 [c2] = some y ∧ WOk Try.prog 3 y.1) ∧ (∃ y, DataW.trod enc Try.prog w base spare held n 3 [c3] = some y ∧ WOk Try.prog 3 y.1) ∧ (∃ y, DataW.trod enc Try.prog w base spare held n 3 [c4] = some y ∧ WOk Try.prog 3 y.1) ∧ (∃ y, DataW.trod enc Try.prog w base spare held n 3 [c5] = some y ∧ WOk Try.prog 3 y.1) := by
  have z3 : Try.prog.cellsOf 3 = 1 := by kernel_rfl
  obtain ⟨hl, n, hf⟩ := rdw_fields Try.underlying53 h hW
  have hz : Try.prog.cellsOf 53 = 6 := by kernel_rfl
  rw [hz] at hl
  obtain ⟨c0, c1, c2, c3, c4, c5, rfl⟩ := six_of hl
  have f0 : ∃ y, DataW.trod enc Try.prog w base spare held n 3 ((List.drop 0 [c0, c1, c2, c3, c4, c5]).take (Try.prog.cellsOf 3)) = some y ∧ WOk Try.prog 3 y.1 := hf 0 _ rfl
  rw [z3] at f0
  have f1 : ∃ y, DataW.trod enc Try.prog w base spare held n 3 ((List.drop 1 [c0, c1, c2, c3, c4, c5]).take (Try.prog.cellsOf 3)) = some y ∧ WOk Try.prog 3 y.1 := hf 1 _ rfl
  rw [z3] at f1
  have f2 : ∃ y, DataW.trod enc Try.prog w base spare held n 3 ((List.drop 2 [c0, c1, c2, c3, c4, c5]).take (Try.prog.cellsOf 3)) = some y ∧ WOk Try.prog 3 y.1 := hf 2 _ rfl
  rw [z3] at f2
  have f3 : ∃ y, DataW.trod enc Try.prog w base spare held n 3 ((List.drop 3 [c0, c1, c2, c3, c4, c5]).take (Try.prog.cellsOf 3)) = some y ∧ WOk Try.prog 3 y.1 := hf 3 _ rfl
  rw [z3] at f3
  have f4 : ∃ y, DataW.trod enc Try.prog w base spare held n 3 ((List.drop 4 [c0, c1, c2, c3, c4, c5]).take (Try.prog.cellsOf 3)) = some y ∧ WOk Try.prog 3 y.1 := hf 4 _ rfl
  rw [z3] at f4
  have f5 : ∃ y, DataW.trod enc Try.prog w base spare held n 3 ((List.drop 5 [c0, c1, c2, c3, c4, c5]).take (Try.prog.cellsOf 3)) = some y ∧ WOk Try.prog 3 y.1 := hf 5 _ rfl
  rw [z3] at f5
  exact ⟨n, c0, c1, c2, c3, c4, c5, rfl, f0, f1, f2, f3, f4, f5⟩
theorem rdF68 (h : DataW.trod enc Try.prog w base spare held fuel 68 cs = some x) (hW : WOk Try.prog 68 x.1) : ∃ n c0 c1 c2 c3, cs = [c0, c1, c2, c3] ∧ (∃ y, DataW.trod enc Try.prog w base spare held n 5 [c0] = some y ∧ WOk Try.prog 5 y.1) ∧ (∃ y, DataW.trod enc Try.prog w base spare held n 44 [c1, c2] = some y ∧ WOk Try.prog 44 y.1) ∧ (∃ y, DataW.trod enc Try.prog w base spare held n 5 [c3] = some y ∧ WOk Try.prog 5 y.1) := by
  have z5 : Try.prog.cellsOf 5 = 1 := by kernel_rfl
  have z44 : Try.prog.cellsOf 44 = 2 := by kernel_rfl
  obtain ⟨hl, n, hf⟩ := rdw_fields Try.underlying68 h hW
  have hz : Try.prog.cellsOf 68 = 4 := by kernel_rfl
  rw [hz] at hl
  obtain ⟨c0, c1, c2, c3, rfl⟩ := four_of hl
  have f0 : ∃ y, DataW.trod enc Try.prog w base spare held n 5 ((List.drop 0 [c0, c1, c2, c3]).take (Try.prog.cellsOf 5)) = some y ∧ WOk Try.prog 5 y.1 := hf 0 _ rfl
  rw [z5] at f0
  have f1 : ∃ y, DataW.trod enc Try.prog w base spare held n 44 ((List.drop 1 [c0, c1, c2, c3]).take (Try.prog.cellsOf 44)) = some y ∧ WOk Try.prog 44 y.1 := hf 1 _ rfl
  rw [z44] at f1
  have f2 : ∃ y, DataW.trod enc Try.prog w base spare held n 5 ((List.drop 3 [c0, c1, c2, c3]).take (Try.prog.cellsOf 5)) = some y ∧ WOk Try.prog 5 y.1 := hf 2 _ rfl
  rw [z5] at f2
  exact ⟨n, c0, c1, c2, c3, rfl, f0, f1, f2⟩
theorem rdF70 (h : DataW.trod enc Try.prog w base spare held fuel 70 cs = some x) (hW : WOk Try.prog 70 x.1) : ∃ n c0 c1 c2 c3 c4 c5, cs = [c0, c1, c2, c3, c4, c5] ∧ (∃ y, DataW.trod enc Try.prog w base spare held n 68 [c0, c1, c2, c3] = some y ∧ WOk Try.prog 68 y.1) ∧ (∃ y, DataW.trod enc Try.prog w base spare held n 3 [c4] = some y ∧ WOk Try.prog 3 y.1) ∧ (∃ y, DataW.trod enc Try.prog w base spare held n 3 [c5] = some y ∧ WOk Try.prog 3 y.1) := by
  have z3 : Try.prog.cellsOf 3 = 1 := by kernel_rfl
  have z68 : Try.prog.cellsOf 68 = 4 := by kernel_rfl
  obtain ⟨hl, n, hf⟩ := rdw_fields Try.underlying70 h hW
  have hz : Try.prog.cellsOf 70 = 6 := by kernel_rfl
  rw [hz] at hl
  obtain ⟨c0, c1, c2, c3, c4, c5, rfl⟩ := six_of hl
  have f0 : ∃ y, DataW.trod enc Try.prog w base spare held n 68 ((List.drop 0 [c0, c1, c2, c3, c4, c5]).take (Try.prog.cellsOf 68)) = some y ∧ WOk Try.prog 68 y.1 := hf 0 _ rfl
  rw [z68] at f0
  have f1 : ∃ y, DataW.trod enc Try.prog w base spare held n 3 ((List.drop 4 [c0, c1, c2, c3, c4, c5]).take (Try.prog.cellsOf 3)) = some y ∧ WOk Try.prog 3 y.1 := hf 1 _ rfl
  rw [z3] at f1
  have f2 : ∃ y, DataW.trod enc Try.prog w base spare held n 3 ((List.drop 5 [c0, c1, c2, c3, c4, c5]).take (Try.prog.cellsOf 3)) = some y ∧ WOk Try.prog 3 y.1 := hf 2 _ rfl
  rw [z3] at f2
  exact ⟨n, c0, c1, c2, c3, c4, c5, rfl, f0, f1, f2⟩
theorem rdF79 (h : DataW.trod enc Try.prog w base spare held fuel 79 cs = some x) (hW : WOk Try.prog 79 x.1) : ∃ n c0 c1 c2 c3 c4 c5, cs = [c0, c1, c2, c3, c4, c5] ∧ (∃ y, DataW.trod enc Try.prog w base spare held n 9 [c0] = some y ∧ WOk Try.prog 9 y.1) ∧ (∃ y, DataW.trod enc Try.prog w base spare held n 3 [c1] = some y ∧ WOk Try.prog 3 y.1) ∧ (∃ y, DataW.trod enc Try.prog w base spare held n 3 [c2] = some y ∧ WOk Try.prog 3 y.1) ∧ (∃ y, DataW.trod enc Try.prog w base spare held n 3 [c3] = some y ∧ WOk Try.prog 3 y.1) ∧ (∃ y, DataW.trod enc Try.prog w base spare held n 30 [c4] = some y ∧ WOk Try.prog 30 y.1) ∧ (∃ y, DataW.trod enc Try.prog w base spare held n 4 [c5] = some y ∧ WOk Try.prog 4 y.1) := by
  have z3 : Try.prog.cellsOf 3 = 1 := by kernel_rfl
  have z4 : Try.prog.cellsOf 4 = 1 := by kernel_rfl
  have z9 : Try.prog.cellsOf 9 = 1 := by kernel_rfl
  have z30 : Try.prog.cellsOf 30 = 1 := by kernel_rfl
  obtain ⟨hl, n, hf⟩ := rdw_fields Try.underlying79 h hW
  have hz : Try.prog.cellsOf 79 = 6 := by kernel_rfl
  rw [hz] at hl
  obtain ⟨c0, c1, c2, c3, c4, c5, rfl⟩ := six_of hl
  have f0 : ∃ y, DataW.trod enc Try.prog w base spare held n 9 ((List.drop 0 [c0, c1, c2, c3, c4, c5]).take (Try.prog.cellsOf 9)) = some y ∧ WOk Try.prog 9 y.1 := hf 0 _ rfl
  rw [z9] at f0
  have f1 : ∃ y, DataW.trod enc Try.prog w base spare held n 3 ((List.drop 1 [c0, c1, c2, c3, c4, c5]).take (Try.prog.cellsOf 3)) = some y ∧ WOk Try.prog 3 y.1 := hf 1 _ rfl
  rw [z3] at f1
  have f2 : ∃ y, DataW.trod enc Try.prog w base spare held n 3 ((List.drop 2 [c0, c1, c2, c3, c4, c5]).take (Try.prog.cellsOf 3)) = some y ∧ WOk Try.prog 3 y.1 := hf 2 _ rfl
  rw [z3] at f2
  have f3 : ∃ y, DataW.trod enc Try.prog w base spare held n 3 ((List.drop 3 [c0, c1, c2, c3, c4, c5]).take (Try.prog.cellsOf 3)) = some y ∧ WOk Try.prog 3 y.1 := hf 3 _ rfl
  rw [z3] at f3
  have f4 : ∃ y, DataW.trod enc Try.prog w base spare held n 30 ((List.drop 4 [c0, c1, c2, c3, c4, c5]).take (Try.prog.cellsOf 30)) = some y ∧ WOk Try.prog 30 y.1 := hf 4 _ rfl
  rw [z30] at f4
  have f5 : ∃ y, DataW.trod enc Try.prog w base spare held n 4 ((List.drop 5 [c0, c1, c2, c3, c4, c5]).take (Try.prog.cellsOf 4)) = some y ∧ WOk Try.prog 4 y.1 := hf 5 _ rfl
  rw [z4] at f5
  exact ⟨n, c0, c1, c2, c3, c4, c5, rfl, f0, f1, f2, f3, f4, f5⟩
theorem rdF80 (h : DataW.trod enc Try.prog w base spare held fuel 80 cs = some x) : ∃ n c0 c1, cs = [c0, c1] ∧ (∃ y, DataW.trod enc Try.prog w base spare held n 3 [c0] = some y) ∧ (∃ y, DataW.trod enc Try.prog w base spare held n 3 [c1] = some y) := by
  have z3 : Try.prog.cellsOf 3 = 1 := by kernel_rfl
  obtain ⟨hl, n, hf⟩ := rd_elems Try.underlying80 z3 h
  have hz : Try.prog.cellsOf 80 = 2 := by kernel_rfl
  rw [hz] at hl
  obtain ⟨c0, c1, rfl⟩ := two_of hl
  have f0 : ∃ y, DataW.trod enc Try.prog w base spare held n 3 [c0] = some y := hf 0 (by omega)
  have f1 : ∃ y, DataW.trod enc Try.prog w base spare held n 3 [c1] = some y := hf 1 (by omega)
  exact ⟨n, c0, c1, rfl, f0, f1⟩
theorem rdF89 (h : DataW.trod enc Try.prog w base spare held fuel 89 cs = some x) (hW : WOk Try.prog 89 x.1) : ∃ n c0 c1 c2 c3 c4, cs = [c0, c1, c2, c3, c4] ∧ (∃ y, DataW.trod enc Try.prog w base spare held n 3 [c0] = some y ∧ WOk Try.prog 3 y.1) ∧ (∃ y, DataW.trod enc Try.prog w base spare held n 3 [c1] = some y ∧ WOk Try.prog 3 y.1) ∧ (∃ y, DataW.trod enc Try.prog w base spare held n 3 [c2] = some y ∧ WOk Try.prog 3 y.1) ∧ (∃ y, DataW.trod enc Try.prog w base spare held n 3 [c3] = some y ∧ WOk Try.prog 3 y.1) ∧ (∃ y, DataW.trod enc Try.prog w base spare held n 3 [c4] = some y ∧ WOk Try.prog 3 y.1) := by
  have z3 : Try.prog.cellsOf 3 = 1 := by kernel_rfl
  obtain ⟨hl, n, hf⟩ := rdw_fields Try.underlying89 h hW
  have hz : Try.prog.cellsOf 89 = 5 := by kernel_rfl
  rw [hz] at hl
  obtain ⟨c0, c1, c2, c3, c4, rfl⟩ := five_of hl
  have f0 : ∃ y, DataW.trod enc Try.prog w base spare held n 3 ((List.drop 0 [c0, c1, c2, c3, c4]).take (Try.prog.cellsOf 3)) = some y ∧ WOk Try.prog 3 y.1 := hf 0 _ rfl
  rw [z3] at f0
  have f1 : ∃ y, DataW.trod enc Try.prog w base spare held n 3 ((List.drop 1 [c0, c1, c2, c3, c4]).take (Try.prog.cellsOf 3)) = some y ∧ WOk Try.prog 3 y.1 := hf 1 _ rfl
  rw [z3] at f1
  have f2 : ∃ y, DataW.trod enc Try.prog w base spare held n 3 ((List.drop 2 [c0, c1, c2, c3, c4]).take (Try.prog.cellsOf 3)) = some y ∧ WOk Try.prog 3 y.1 := hf 2 _ rfl
  rw [z3] at f2
  have f3 : ∃ y, DataW.trod enc Try.prog w base spare held n 3 ((List.drop 3 [c0, c1, c2, c3, c4]).take (Try.prog.cellsOf 3)) = some y ∧ WOk Try.prog 3 y.1 := hf 3 _ rfl
  rw [z3] at f3
  have f4 : ∃ y, DataW.trod enc Try.prog w base spare held n 3 ((List.drop 4 [c0, c1, c2, c3, c4]).take (Try.prog.cellsOf 3)) = some y ∧ WOk Try.prog 3 y.1 := hf 4 _ rfl
  rw [z3] at f4
  exact ⟨n, c0, c1, c2, c3, c4, rfl, f0, f1, f2, f3, f4⟩
end
end Go.Proofs.Ytghgnofilbnbaaa
/- part Rd1 -/
namespace Go.Proofs.Ytghgnofilbnbaaa
open Go Bx
theorem rd_Spn : RdW Try.prog 44 RSpn := by
  intro H enc w base spare held fuel cs x h hW
  obtain ⟨n, c0, c1, rfl, ⟨y0, f0, k0⟩, ⟨y1, f1, k1⟩⟩ := rdF44 h hW
  obtain ⟨a0, g0⟩ := (Rd.w (rd_int Try.underlying3)) _ _ _ _ _ _ _ _ _ f0 k0
  obtain ⟨a1, g1⟩ := (Rd.w (rd_int Try.underlying3)) _ _ _ _ _ _ _ _ _ f1 k1
  obtain ⟨e0, i0⟩ := g0; obtain ⟨e1, i1⟩ := g1; cases e0; cases e1; exact ⟨⟨a0, a1⟩, rfl, i0, i1⟩
theorem rd_Spns : RdW Try.prog 40 (fun w cs (l : List Spn) => ∃ v, cs = [v] ∧ Sl w 2 RSpn v l ∧ l.length * 16 ≤ 140737488351232) := rdw_slice rd_Spn (by kernel_rfl) (by decide) Try.underlying40 (by kernel_rfl)
theorem rd_Ints : RdW Try.prog 30 (fun w cs (l : List Int) => ∃ v, cs = [v] ∧ Sl w 1 RInt v l ∧ l.length * 8 ≤ 140737488351232) := rdw_slice (Rd.w (rd_int Try.underlying3)) (by kernel_rfl) (by decide) Try.underlying30 (by kernel_rfl)
theorem rd_Nams : RdW Try.prog 23 (fun w cs (l : List ByteArray) => ∃ v, cs = [v] ∧ Sl w 1 RNam v l ∧ l.length * 16 ≤ 140737488351232) := rdw_slice (Rd.w (rd_str Try.underlying9)) (by kernel_rfl) (by decide) Try.underlying23 (by kernel_rfl)
theorem rd_Opr : RdW Try.prog 42 ROprS := by
  intro H enc w base spare held fuel cs x h hW
  obtain ⟨n, c0, c1, c2, rfl, ⟨y0, f0, k0⟩, ⟨y1, f1, k1⟩, ⟨y2, f2, k2⟩⟩ := rdF42 h hW
  obtain ⟨a0, g0⟩ := (Rd.w (rd_str Try.underlying9)) _ _ _ _ _ _ _ _ _ f0 k0
  obtain ⟨a1, g1⟩ := (Rd.w (rd_int Try.underlying3)) _ _ _ _ _ _ _ _ _ f1 k1
  obtain ⟨a2, g2⟩ := rd_Spns _ _ _ _ _ _ _ _ _ f2 k2
  obtain ⟨e0, i0⟩ := g0; obtain ⟨e1, i1⟩ := g1; obtain ⟨v2, e2, i2, r2⟩ := g2; cases e0; cases e1; cases e2; exact ⟨⟨a0, a1, a2⟩, ⟨_, rfl, i0, i1, i2, Nat.le_trans r2 (by decide)⟩, r2⟩
theorem rd_Oprs : RdW Try.prog 22 (fun w cs (l : List Opr) => ∃ v, cs = [v] ∧ Sl w 3 ROprS v l ∧ l.length * 48 ≤ 140737488351232) := rdw_slice rd_Opr (by kernel_rfl) (by decide) Try.underlying22 (by kernel_rfl)
theorem rd_Knd : RdW Try.prog 79 RKnd := by
  intro H enc w base spare held fuel cs x h hW
  obtain ⟨n, c0, c1, c2, c3, c4, c5, rfl, ⟨y0, f0, k0⟩, ⟨y1, f1, k1⟩, ⟨y2, f2, k2⟩, ⟨y3, f3, k3⟩, ⟨y4, f4, k4⟩, ⟨y5, f5, k5⟩⟩ := rdF79 h hW
  obtain ⟨a0, g0⟩ := (Rd.w (rd_str Try.underlying9)) _ _ _ _ _ _ _ _ _ f0 k0
  obtain ⟨a1, g1⟩ := (Rd.w (rd_int Try.underlying3)) _ _ _ _ _ _ _ _ _ f1 k1
  obtain ⟨a2, g2⟩ := (Rd.w (rd_int Try.underlying3)) _ _ _ _ _ _ _ _ _ f2 k2
  obtain ⟨a3, g3⟩ := (Rd.w (rd_int Try.underlying3)) _ _ _ _ _ _ _ _ _ f3 k3
  obtain ⟨a4, g4⟩ := rd_Ints _ _ _ _ _ _ _ _ _ f4 k4
  obtain ⟨a5, g5⟩ := (Rd.w (rd_bool Try.underlying4)) _ _ _ _ _ _ _ _ _ f5 k5
  obtain ⟨e0, i0⟩ := g0; obtain ⟨e1, i1⟩ := g1; obtain ⟨e2, i2⟩ := g2; obtain ⟨e3, i3⟩ := g3; obtain ⟨v4, e4, i4, r4⟩ := g4; have e5 : [c5] = [Value.bool a5] := g5; cases e0; cases e1; cases e2; cases e3; cases e4; cases e5; exact ⟨⟨a0, a1, a2, a3, a4, a5⟩, _, rfl, i0, i1, i2, i3, i4, r4⟩
theorem rd_Knds : RdW Try.prog 24 (fun w cs (l : List Knd) => ∃ v, cs = [v] ∧ Sl w 6 RKnd v l ∧ l.length * 72 ≤ 140737488351232) := rdw_slice rd_Knd (by kernel_rfl) (by decide) Try.underlying24 (by kernel_rfl)
theorem rd_CrewS : RdW Try.prog 26 RCrewS := by
  intro H enc w base spare held fuel cs x h hW
  obtain ⟨n, c0, c1, c2, rfl, ⟨y0, f0, k0⟩, ⟨y1, f1, k1⟩, ⟨y2, f2, k2⟩⟩ := rdF26 h hW
  obtain ⟨a0, g0⟩ := rd_Oprs _ _ _ _ _ _ _ _ _ f0 k0
  obtain ⟨a1, g1⟩ := rd_Nams _ _ _ _ _ _ _ _ _ f1 k1
  obtain ⟨a2, g2⟩ := rd_Knds _ _ _ _ _ _ _ _ _ f2 k2
  obtain ⟨v0, e0, i0, r0⟩ := g0; obtain ⟨v1, e1, i1, r1⟩ := g1; obtain ⟨v2, e2, i2, r2⟩ := g2; cases e0; cases e1; cases e2; exact ⟨⟨a0, a1, a2⟩, ⟨_, _, _, rfl, i0.mono (fun _ _ h => h.1), i1, i2, r0⟩, sl_all i0 (fun _ _ h => h.2)⟩
theorem rd_Crew : RdW Try.prog 26 RCrew := fun H enc w base spare held fuel cs x h hW => by obtain ⟨a, h⟩ := rd_CrewS H enc w base spare held fuel cs x h hW; exact ⟨a, h.1⟩
theorem rd_Act : RdW Try.prog 53 RAct := by
  intro H enc w base spare held fuel cs x h hW
  obtain ⟨n, c0, c1, c2, c3, c4, c5, rfl, ⟨y0, f0, k0⟩, ⟨y1, f1, k1⟩, ⟨y2, f2, k2⟩, ⟨y3, f3, k3⟩, ⟨y4, f4, k4⟩, ⟨y5, f5, k5⟩⟩ := rdF53 h hW
  obtain ⟨a0, g0⟩ := (Rd.w (rd_int Try.underlying3)) _ _ _ _ _ _ _ _ _ f0 k0
  obtain ⟨a1, g1⟩ := (Rd.w (rd_int Try.underlying3)) _ _ _ _ _ _ _ _ _ f1 k1
  obtain ⟨a2, g2⟩ := (Rd.w (rd_int Try.underlying3)) _ _ _ _ _ _ _ _ _ f2 k2
  obtain ⟨a3, g3⟩ := (Rd.w (rd_int Try.underlying3)) _ _ _ _ _ _ _ _ _ f3 k3
  obtain ⟨a4, g4⟩ := (Rd.w (rd_int Try.underlying3)) _ _ _ _ _ _ _ _ _ f4 k4
  obtain ⟨a5, g5⟩ := (Rd.w (rd_int Try.underlying3)) _ _ _ _ _ _ _ _ _ f5 k5
  obtain ⟨e0, i0⟩ := g0; obtain ⟨e1, i1⟩ := g1; obtain ⟨e2, i2⟩ := g2; obtain ⟨e3, i3⟩ := g3; obtain ⟨e4, i4⟩ := g4; obtain ⟨e5, i5⟩ := g5; cases e0; cases e1; cases e2; cases e3; cases e4; cases e5; exact ⟨⟨a0, a1, a2, a3, a4, a5⟩, rfl, i0, i1, i2, i3, i4, i5⟩
theorem rd_Acts : RdW Try.prog 37 (fun w cs (l : List Acn) => ∃ v, cs = [v] ∧ Sl w 6 RAct v l ∧ l.length * 48 ≤ 140737488351232) := rdw_slice rd_Act (by kernel_rfl) (by decide) Try.underlying37 (by kernel_rfl)
theorem rd_Stp : RdW Try.prog 89 RStp := by
  intro H enc w base spare held fuel cs x h hW
  obtain ⟨n, c0, c1, c2, c3, c4, rfl, ⟨y0, f0, k0⟩, ⟨y1, f1, k1⟩, ⟨y2, f2, k2⟩, ⟨y3, f3, k3⟩, ⟨y4, f4, k4⟩⟩ := rdF89 h hW
  obtain ⟨a0, g0⟩ := (Rd.w (rd_int Try.underlying3)) _ _ _ _ _ _ _ _ _ f0 k0
  obtain ⟨a1, g1⟩ := (Rd.w (rd_int Try.underlying3)) _ _ _ _ _ _ _ _ _ f1 k1
  obtain ⟨a2, g2⟩ := (Rd.w (rd_int Try.underlying3)) _ _ _ _ _ _ _ _ _ f2 k2
  obtain ⟨a3, g3⟩ := (Rd.w (rd_int Try.underlying3)) _ _ _ _ _ _ _ _ _ f3 k3
  obtain ⟨a4, g4⟩ := (Rd.w (rd_int Try.underlying3)) _ _ _ _ _ _ _ _ _ f4 k4
  obtain ⟨e0, i0⟩ := g0; obtain ⟨e1, i1⟩ := g1; obtain ⟨e2, i2⟩ := g2; obtain ⟨e3, i3⟩ := g3; obtain ⟨e4, i4⟩ := g4; cases e0; cases e1; cases e2; cases e3; cases e4; exact ⟨⟨a0, a1, a2, a3, a4⟩, rfl, i0, i1, i2, i3, i4⟩
theorem rd_Stps : RdW Try.prog 27 (fun w cs (l : List Stp) => ∃ v, cs = [v] ∧ Sl w 5 RStp v l ∧ l.length * 40 ≤ 140737488351232) := rdw_slice rd_Stp (by kernel_rfl) (by decide) Try.underlying27 (by kernel_rfl)
theorem rd_Scr : RdW Try.prog 29 RScr := by
  intro H enc w base spare held fuel cs x h hW
  obtain ⟨n, c0, c1, rfl, ⟨y0, f0, k0⟩, ⟨y1, f1, k1⟩⟩ := rdF29 h hW
  obtain ⟨a0, g0⟩ := (Rd.w (rd_str Try.underlying9)) _ _ _ _ _ _ _ _ _ f0 k0
  obtain ⟨a1, g1⟩ := rd_Stps _ _ _ _ _ _ _ _ _ f1 k1
  obtain ⟨e0, i0⟩ := g0; obtain ⟨v1, e1, i1, r1⟩ := g1; cases e0; cases e1; exact ⟨⟨a0, a1⟩, _, rfl, i0, i1⟩
theorem rd_Drl : RdW Try.prog 39 RDrl := by
  intro H enc w base spare held fuel cs x h hW
  obtain ⟨n, c0, c1, c2, c3, rfl, ⟨y0, f0, k0⟩, ⟨y1, f1, k1⟩, ⟨y2, f2, k2⟩⟩ := rdF39 h hW
  obtain ⟨a0, g0⟩ := rd_Scr _ _ _ _ _ _ _ _ _ f0 k0
  obtain ⟨a1, g1⟩ := (Rd.w (rd_int Try.underlying3)) _ _ _ _ _ _ _ _ _ f1 k1
  obtain ⟨a2, g2⟩ := rd_Acts _ _ _ _ _ _ _ _ _ f2 k2
  obtain ⟨v0, e0, i0, j0⟩ := g0; obtain ⟨e1, i1⟩ := g1; obtain ⟨v2, e2, i2, r2⟩ := g2; cases e0; cases e1; cases e2; exact ⟨⟨a0, a1, a2⟩, _, _, rfl, i0, j0, i1, i2⟩
theorem rd_Mor : RdW Try.prog 68 RMor := by
  intro H enc w base spare held fuel cs x h hW
  obtain ⟨n, c0, c1, c2, c3, rfl, ⟨y0, f0, k0⟩, ⟨y1, f1, k1⟩, ⟨y2, f2, k2⟩⟩ := rdF68 h hW
  obtain ⟨a0, g0⟩ := (Rd.w (rd_u8 Try.underlying5)) _ _ _ _ _ _ _ _ _ f0 k0
  obtain ⟨a1, g1⟩ := rd_Spn _ _ _ _ _ _ _ _ _ f1 k1
  obtain ⟨a2, g2⟩ := (Rd.w (rd_u8 Try.underlying5)) _ _ _ _ _ _ _ _ _ f2 k2
  obtain ⟨e0, i0⟩ := g0; obtain ⟨e1, i1⟩ := g1; obtain ⟨e2, i2⟩ := g2; cases e0; cases e1; cases e2; exact ⟨⟨a0, a1, a2⟩, rfl, i0, i1, i2⟩
theorem rd_Xtr : RdW Try.prog 70 RXtr := by
  intro H enc w base spare held fuel cs x h hW
  obtain ⟨n, c0, c1, c2, c3, c4, c5, rfl, ⟨y0, f0, k0⟩, ⟨y1, f1, k1⟩, ⟨y2, f2, k2⟩⟩ := rdF70 h hW
  obtain ⟨a0, g0⟩ := rd_Mor _ _ _ _ _ _ _ _ _ f0 k0
  obtain ⟨a1, g1⟩ := (Rd.w (rd_int Try.underlying3)) _ _ _ _ _ _ _ _ _ f1 k1
  obtain ⟨a2, g2⟩ := (Rd.w (rd_int Try.underlying3)) _ _ _ _ _ _ _ _ _ f2 k2
  obtain ⟨e0, i0, j0, l0⟩ := g0; obtain ⟨e1, i1⟩ := g1; obtain ⟨e2, i2⟩ := g2; cases e0; cases e1; cases e2; exact ⟨⟨a0.who, a0.sp, a0.gr, a1, a2⟩, rfl, i0, j0, l0, i1, i2⟩
theorem rd_TwoI : RdW Try.prog 80 RTwoI := by
  intro H enc w base spare held fuel cs x h hW
  obtain ⟨n, c0, c1, rfl, ⟨y0, f0⟩, ⟨y1, f1⟩⟩ := rdF80 h
  obtain ⟨a0, e0, i0⟩ := rd_int Try.underlying3 _ _ _ _ _ _ _ _ _ f0
  obtain ⟨a1, e1, i1⟩ := rd_int Try.underlying3 _ _ _ _ _ _ _ _ _ f1
  cases e0; cases e1; exact ⟨(a0, a1), rfl, i0, i1⟩
end Go.Proofs.Ytghgnofilbnbaaa
