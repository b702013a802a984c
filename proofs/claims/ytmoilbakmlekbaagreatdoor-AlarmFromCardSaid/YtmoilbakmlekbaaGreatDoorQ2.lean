/- Merged texts, part 2. -/
import Derived.Test.YtmoilbakmlekbaaGreatDoorQ1
import Derived.Shelf.SortM.SortNone
import Derived.Shelf.SortM.Plain
import Derived.Shelf.SlGeneric
import Derived.Ground.SlgmProg
import Derived.Test.YtmoilbakmlekbaaGreatDoorProg
import Derived.LaidEql
import Derived.Stop.Asserts
import Derived.RowKitTokens
set_option linter.all false
/- part LayA -/
namespace Go.Proofs.YtmoilbakmlekbaaGreatDoor
open Go.Shelf
def sortInts_ren : Go.Shelf.Ren := ⟨fun | 5 => 113 | 8 => 136 | 7 => 135 | 19 => 154 | 20 => 155 | 10 => 145 | 11 => 146 | 12 => 147 | 13 => 148 | 14 => 149 | 15 => 150 | 16 => 151 | 17 => 152 | 18 => 153 | 30 => 166 | 31 => 167 | 32 => 168 | 33 => 169 | 34 => 170 | 35 => 139 | 40 => 177 | n => n, fun | 23 => 34 | 25 => 3 | 3 => 3 | 32 => 233 | 22 => 34 | 0 => 0 | 44 => 56 | 46 => 252 | 4 => 4 | 36 => 244 | 35 => 243 | 41 => 177 | 5 => 5 | 9 => 9 | 53 => 260 | 57 => 264 | 63 => 270 | 64 => 257 | n => n, fun | n => n⟩
theorem sortInts : Go.Proofs.SlLaysM.n5 Tryz.prog sortInts_ren := {
  mixed := by kernel_rfl
  f5 := ⟨Tryz.f113.name, by decide, Tryz.func113.trans (congrArg some (by kernel_rfl))⟩
  f7 := ⟨Tryz.f135.name, by decide, Tryz.func135.trans (congrArg some (by kernel_rfl))⟩
  f8 := Tryz.func136.trans (congrArg some (by kernel_rfl))
  f10 := ⟨Tryz.f145.name, by decide, Tryz.func145.trans (congrArg some (by kernel_rfl))⟩
  f11 := ⟨Tryz.f146.name, by decide, Tryz.func146.trans (congrArg some (by kernel_rfl))⟩
  f12 := ⟨Tryz.f147.name, by decide, Tryz.func147.trans (congrArg some (by kernel_rfl))⟩
  f13 := ⟨Tryz.f148.name, by decide, Tryz.func148.trans (congrArg some (by kernel_rfl))⟩
  f14 := ⟨Tryz.f149.name, by decide, Tryz.func149.trans (congrArg some (by kernel_rfl))⟩
  f15 := ⟨Tryz.f150.name, by decide, Tryz.func150.trans (congrArg some (by kernel_rfl))⟩
  f16 := ⟨Tryz.f151.name, by decide, Tryz.func151.trans (congrArg some (by kernel_rfl))⟩
  f17 := ⟨Tryz.f152.name, by decide, Tryz.func152.trans (congrArg some (by kernel_rfl))⟩
  f18 := ⟨Tryz.f153.name, by decide, Tryz.func153.trans (congrArg some (by kernel_rfl))⟩
  f19 := Tryz.func154.trans (congrArg some (by kernel_rfl))
  f20 := Tryz.func155.trans (congrArg some (by kernel_rfl))
  f30 := ⟨Tryz.f166.name, by decide, Tryz.func166.trans (congrArg some (by kernel_rfl))⟩
  f31 := Tryz.func167.trans (congrArg some (by kernel_rfl))
  f32 := Tryz.func168.trans (congrArg some (by kernel_rfl))
  f33 := ⟨Tryz.f169.name, by decide, Tryz.func169.trans (congrArg some (by kernel_rfl))⟩
  f34 := ⟨Tryz.f170.name, by decide, Tryz.func170.trans (congrArg some (by kernel_rfl))⟩
  f35 := ⟨Tryz.f139.name, by decide, Tryz.func139.trans (congrArg some (by kernel_rfl))⟩
  f40 := ⟨Tryz.f177.name, by decide, Tryz.func177.trans (congrArg some (by kernel_rfl))⟩
  t0 := Tryz.underlying0
  a0 := Tryz.isAgg0
  z0 := Tryz.sizeOf0
  v0 := Tryz.zeroValue0
  t3 := Tryz.underlying3
  a3 := Tryz.isAgg3
  z3 := Tryz.sizeOf3
  v3 := Tryz.zeroValue3
  t4 := Tryz.underlying4
  a4 := Tryz.isAgg4
  z4 := Tryz.sizeOf4
  v4 := Tryz.zeroValue4
  t5 := Tryz.underlying5
  a5 := Tryz.isAgg5
  z5 := Tryz.sizeOf5
  v5 := Tryz.zeroValue5
  t9 := Tryz.underlying9
  a9 := Tryz.isAgg9
  z9 := Tryz.sizeOf9
  v9 := Tryz.zeroValue9
  t22 := Tryz.underlying34
  a22 := Tryz.isAgg34
  z22 := Tryz.sizeOf34
  v22 := Tryz.zeroValue34
  t23 := Tryz.underlying34
  a23 := Tryz.isAgg34
  z23 := Tryz.sizeOf34
  v23 := Tryz.zeroValue34
  t25 := Tryz.underlying3
  a25 := Tryz.isAgg3
  z25 := Tryz.sizeOf3
  v25 := Tryz.zeroValue3
  t32 := Tryz.underlying233
  a32 := Tryz.isAgg233
  z32 := Tryz.sizeOf233
  v32 := Tryz.zeroValue233
  t35 := Tryz.underlying243
  a35 := Tryz.isAgg243
  z35 := Tryz.sizeOf243
  v35 := Tryz.zeroValue243
  t36 := Tryz.underlying244
  a36 := Tryz.isAgg244
  z36 := Tryz.sizeOf244
  v36 := Tryz.zeroValue244
  t41 := Tryz.underlying177
  a41 := Tryz.isAgg177
  z41 := Tryz.sizeOf177
  v41 := Tryz.zeroValue177
  t44 := Tryz.underlying56
  a44 := Tryz.isAgg56
  z44 := Tryz.sizeOf56
  v44 := Tryz.zeroValue56
  t46 := Tryz.underlying252
  a46 := Tryz.isAgg252
  z46 := Tryz.sizeOf252
  v46 := Tryz.zeroValue252
  t53 := Tryz.underlying260
  a53 := Tryz.isAgg260
  z53 := Tryz.sizeOf260
  v53 := Tryz.zeroValue260
  t57 := Tryz.underlying264
  a57 := Tryz.isAgg264
  z57 := Tryz.sizeOf264
  v57 := Tryz.zeroValue264
  t63 := Tryz.underlying270
  a63 := Tryz.isAgg270
  z63 := Tryz.sizeOf270
  v63 := Tryz.zeroValue270
  t64 := Tryz.underlying257
  a64 := Tryz.isAgg257
  z64 := Tryz.sizeOf257
  v64 := Tryz.zeroValue257 }
end Go.Proofs.YtmoilbakmlekbaaGreatDoor

/- part C1 -/
namespace Bx
open Go Go.RowKit
def Room (n bytes : Nat) : Prop := n * bytes ≤ 140737488351232
def RoomW (n bytes : Nat) : Prop := n * bytes ≤ 140737488353280
structure Spn where
  fr : Int
  un : Int
structure Opr where
  name : ByteArray
  grade : Int
  duty : List Spn
structure Knd where
  name : ByteArray
  grade : Int
  second : Int
  within : Int
  keys : List Int
  split : Bool
structure Crew where
  ops : List Opr
  keys : List ByteArray
  kinds : List Knd
def spnC (s : Spn) : List Value := [.int .i64 s.fr, .int .i64 s.un]
def RSpn (_ : World) (cs : List Value) (s : Spn) : Prop := cs = spnC s ∧ I64 s.fr ∧ I64 s.un
theorem RSpn.stays : Stays RSpn := fun _ _ _ _ _ h => h
def RNam (_ : World) (cs : List Value) (s : ByteArray) : Prop := cs = [.string s] ∧ s.size ≤ 9223372036854775807
theorem RNam.stays : Stays RNam := fun _ _ _ _ _ h => h
def ROpr (w : World) (cs : List Value) (o : Opr) : Prop := ∃ dv, cs = [.string o.name, .int .i64 o.grade, dv] ∧ o.name.size ≤ 9223372036854775807 ∧ I64 o.grade ∧ Sl w 2 RSpn dv o.duty ∧ RoomW o.duty.length 16
theorem ROpr.stays : Stays ROpr := fun _ _ _ _ e ⟨dv, h1, h2, h3, h4, h5⟩ => ⟨dv, h1, h2, h3, h4.ext RSpn.stays e, h5⟩
def RKnd (w : World) (cs : List Value) (k : Knd) : Prop := ∃ kv, cs = [.string k.name, .int .i64 k.grade, .int .i64 k.second, .int .i64 k.within, kv, .bool k.split] ∧ k.name.size ≤ 9223372036854775807 ∧ I64 k.grade ∧ I64 k.second ∧ I64 k.within ∧ Sl w 1 RInt kv k.keys ∧ Room k.keys.length 8
theorem RKnd.stays : Stays RKnd := fun _ _ _ _ e ⟨kv, h1, h2, h3, h4, h5, h6, h7⟩ => ⟨kv, h1, h2, h3, h4, h5, h6.ext RInt.stays e, h7⟩
def RCrew (w : World) (cs : List Value) (c : Crew) : Prop := ∃ ov kv nv, cs = [ov, kv, nv] ∧ Sl w 3 ROpr ov c.ops ∧ Sl w 1 RNam kv c.keys ∧ Sl w 6 RKnd nv c.kinds ∧ Room c.ops.length 48
theorem RCrew.stays : Stays RCrew := fun _ _ _ _ e ⟨ov, kv, nv, h1, h2, h3, h4, h5⟩ => ⟨ov, kv, nv, h1, h2.ext ROpr.stays e, h3.ext RNam.stays e, h4.ext RKnd.stays e, h5⟩
theorem RCrew.ext {w w' : World} {cs : List Value} {c : Crew} (h : RCrew w cs c) (e : Ext w w') : RCrew w' cs c := RCrew.stays _ _ _ _ e h
theorem ROpr.ext {w w' : World} {cs : List Value} {c : Opr} (h : ROpr w cs c) (e : Ext w w') : ROpr w' cs c := ROpr.stays _ _ _ _ e h
theorem RKnd.ext {w w' : World} {cs : List Value} {c : Knd} (h : RKnd w cs c) (e : Ext w w') : RKnd w' cs c := RKnd.stays _ _ _ _ e h
def namedR {α : Type} (nm : α → ByteArray) (rest : α → Int) : List α → List ByteArray → Int → Int × Int
  | [], _, _ => (0, 0)
  | x :: l, seen, i => if (!isName (nm x)) = true then (i, 6) else if memB (nm x) seen = true then (i, 5) else if rest x ≠ 0 then (i, rest x) else namedR nm rest l (seen ++ [nm x]) (i + 1)
theorem namedR_take {α : Type} {nm : α → ByteArray} {l : List α} {k : Nat} {x : α} (h : l[k]? = some x) : (l.take (k + 1)).map nm = (l.take k).map nm ++ [nm x] := by rw [take_snoc h, List.map_append]; rfl
def compR : Int → List Int → List Int
  | _, [] => []
  | a, b :: l => if b = a then compR a l else b :: compR b l
def compL : List Int → List Int
  | [] => []
  | a :: l => a :: compR a l
theorem compR_le : ∀ (a : Int) (l : List Int), (compR a l).length ≤ l.length
  | _, [] => Nat.le_refl _
  | a, b :: l => by
    unfold compR
    split
    · have := compR_le a l; simp only [List.length_cons]; omega
    · have := compR_le b l; simp only [List.length_cons]; omega
theorem compR_full : ∀ (a : Int) (l : List Int), (a :: l).Pairwise (· ≤ ·) → ((compR a l).length < l.length ↔ ¬ (a :: l).Nodup)
  | a, [], _ => by simp [compR]
  | a, b :: l, hp => by
    have hab := (List.pairwise_cons.1 hp).1 b (List.mem_cons_self ..)
    have hb := (List.pairwise_cons.1 hp).2
    unfold compR
    by_cases h : b = a
    · subst h
      rw [if_pos rfl]
      have := compR_le b l
      constructor
      · intro _ hn; exact (List.nodup_cons.1 hn).1 (List.mem_cons_self ..)
      · intro _; simp only [List.length_cons]; omega
    · rw [if_neg h]
      have ih := compR_full b l hb
      simp only [List.length_cons]
      have hna : a ∉ b :: l := by
        intro hm
        rcases List.mem_cons.1 hm with e | hm
        · exact h e.symm
        · have := (List.pairwise_cons.1 hb).1 a hm
          omega
      rw [List.nodup_cons]
      constructor
      · rintro hlt ⟨_, hn⟩; exact ih.1 (by omega) hn
      · intro hn
        have : ¬ (b :: l).Nodup := fun k => hn ⟨hna, k⟩
        have := ih.2 this
        omega
theorem compL_full {l : List Int} (h : l.Pairwise (· ≤ ·)) : (compL l).length < l.length ↔ ¬ l.Nodup := by
  cases l with
  | nil => simp [compL]
  | cons a l => simp only [compL, List.length_cons]; rw [← compR_full a l h]; omega
abbrev sortI (l : List Int) : List Int := l.mergeSort fun x y => decide (x ≤ y)
theorem sortI_asc (l : List Int) : (sortI l).Pairwise (· ≤ ·) := by
  have h := List.pairwise_mergeSort (le := fun x y : Int => decide (x ≤ y)) (fun a b c h1 h2 => by simp only [decide_eq_true_eq] at *; omega) (fun a b => by simp only [Bool.or_eq_true, decide_eq_true_eq]; omega) l
  exact h.imp fun hh => by simpa using hh
theorem sortI_perm (l : List Int) : (sortI l).Perm l := List.mergeSort_perm _ _
theorem comp_sort (l : List Int) : (compL (sortI l)).length < l.length ↔ ¬ l.Nodup := by
  rw [← (sortI_perm l).length_eq, compL_full (sortI_asc l), (sortI_perm l).nodup_iff]
end Bx
namespace Bx
open Go Go.RowKit
theorem flatI (l : List Int) : l.flatMap encI = l.map (Value.int .i64) := by
  induction l with
  | nil => rfl
  | cons x l ih => rw [List.flatMap_cons, List.map_cons, ih]; rfl
theorem gap_outI {ks js l : List Int} {j : Nat} {x : Int} (hx : l[j]? = some x) (hne : js ≠ []) : ((ks ++ [x]) ++ (js.tail ++ [x]) ++ l.drop (j + 1)).flatMap encI = splice ((ks ++ js ++ l.drop j).flatMap encI) (ks.length * 1) [.int .i64 x] := by
  obtain ⟨y, js, rfl⟩ := List.exists_cons_of_ne_nil hne
  have hd : l.drop j = x :: l.drop (j + 1) := by
    obtain ⟨h, rfl⟩ := List.getElem?_eq_some_iff.1 hx
    exact List.drop_eq_getElem_cons h
  rw [flatI, flatI, Nat.mul_one, hd]
  unfold splice
  simp only [List.map_append, List.map_cons, List.map_nil, List.tail_cons, List.append_assoc, List.cons_append, List.nil_append, List.length_singleton]
  have e1 : (ks.map (Value.int .i64)).length = ks.length := by simp
  rw [List.take_append, List.take_of_length_le (by simp), List.length_map, Nat.sub_self, List.take_zero, List.append_nil]
  have e2 := drop_mid (ks.map (Value.int .i64)) (.int .i64 y) (js.map (Value.int .i64) ++ Value.int .i64 x :: (l.drop (j + 1)).map (Value.int .i64)) ks.length 0 e1
  rw [Nat.add_zero, List.drop_zero] at e2
  rw [e2]
theorem take_flatI (ks r : List Int) : ((ks ++ r).flatMap encI).take (ks.length * 1) = ks.flatMap encI := by
  rw [flatI, flatI, Nat.mul_one, List.map_append, List.take_append, List.take_of_length_le (by simp), List.length_map, Nat.sub_self, List.take_zero, List.append_nil]
theorem compL_one {l : List Int} (h : 0 < l.length) : compL l = l.take 1 ++ compR (l.getD (1 - 1) 0) (l.drop 1) := by
  cases l with
  | nil => cases h
  | cons a l => simp [compL]
theorem compL_short {l : List Int} (h : (l.length : Int) < 2) : compL l = l := by
  match l with
  | [] => rfl
  | [a] => rfl
  | a :: b :: l => simp at h; omega
theorem mid_last {ks js l : List Int} {j : Nat} (hl : ks.length + js.length = j) (hne : js ≠ []) (h : (ks ++ js)[j - 1]? = l[j - 1]?) : (ks ++ js ++ l.drop j)[j - 1]? = l[j - 1]? := by
  have := List.length_pos_iff.2 hne
  rw [List.getElem?_append_left (by simp; omega), h]
theorem last_in {ks js l : List Int} {j : Nat} {x : Int} (hx : l[j]? = some x) (hl : ks.length + js.length = j) : (ks ++ (js ++ [x]))[j + 1 - 1]? = l[j + 1 - 1]? := by
  rw [← List.append_assoc, List.getElem?_append_right (by simp; omega), Nat.add_sub_cancel, hx]
  simp [hl]
theorem last_out {ks js l : List Int} {j : Nat} {x : Int} (hx : l[j]? = some x) (hl : ks.length + js.length = j) (hne : js ≠ []) : ((ks ++ [x]) ++ (js.tail ++ [x]))[j + 1 - 1]? = l[j + 1 - 1]? := by
  have := List.length_pos_iff.2 hne
  rw [← List.append_assoc, List.getElem?_append_right (by simp; omega), Nat.add_sub_cancel, hx]
  simp only [List.length_append, List.length_singleton, List.length_tail]
  rw [show j - (ks.length + 1 + (js.length - 1)) = 0 by omega]
  rfl
theorem getD_of {l : List Int} {i : Nat} {x : Int} (h : l[i]? = some x) : l.getD i 0 = x := getD_hit h
end Bx

/- part LibZA -/
namespace Go.Proofs.YtmoilbakmlekbaaGreatDoor
open Go Bx Go.Shelf Go.RowKit Go.Lib Go.Sort
theorem flat_encI (l : List Int) : l.flatMap Bx.encI = l.map (Value.int .i64) := by
  induction l with
  | nil => rfl
  | cons x l ih => rw [List.flatMap_cons, List.map_cons, ih]; rfl
theorem putI_take {cur : Array Value} {l : List Int} (h : l.length ≤ cur.size) : (Sort.putCells (Value.int .i64) 0 l.toArray cur).toList.take l.length = l.map (Value.int .i64) ∧ (Sort.putCells (Value.int .i64) 0 l.toArray cur).size = cur.size := by
  refine ⟨?_, by simp [Sort.putCells]⟩
  apply List.ext_getElem?
  intro t
  by_cases ht : t < l.length
  · rw [List.getElem?_take_of_lt ht, Array.getElem?_toList, List.getElem?_map]
    simp only [Sort.putCells, Array.getElem?_mapIdx]
    have h1 : cur[t]? = some cur[t] := Array.getElem?_eq_getElem (by omega)
    rw [h1]
    simp only [Option.map_some]
    rw [if_pos ⟨Nat.zero_le _, by simp; omega⟩, Nat.sub_zero, getElem!_pos l.toArray t (by simpa using ht), List.getElem?_eq_getElem ht]
    rfl
  · rw [List.getElem?_eq_none (by simp; omega), List.getElem?_eq_none (by simp; omega)]
theorem c_Sort {v : Value} {n : Nat} {l : List Int} {w0 : World} (hr : w0.ownsRow 0 3 1 v n (l.flatMap Bx.encI)) (hl : l.length = n) (hn : n < 4611686018427387904) :
    CE Tryz.prog 113 #[v] w0 (fun u w' => u = .tuple #[] ∧ w0.grownBy w' v.ownBlock ∧ w'.ownsRow 0 3 1 v n ((sortI l).flatMap Bx.encI)) := by
  rcases id hr.2 with ⟨rfl, rfl⟩ | ⟨gb, cap, cur, rfl, -, hg, hnc, hcap, hcs, ht⟩
  · refine Calls.mono (AnyM.slices_Sort_int_none sortInts none 0 w0) ?_
    rintro e w' ⟨rfl, rfl⟩
    obtain rfl : l = [] := List.eq_nil_of_length_eq_zero hl
    exact ⟨_, rfl, rfl, ⟨rfl, rfl, rfl, Nat.le_refl _, fun _ _ _ => rfl⟩, by rw [show sortI [] = [] from by simp [sortI]]; exact hr⟩
  · rw [Nat.mul_one] at hcs ht
    rw [flat_encI] at ht
    have hH : Holds (Value.int .i64) w0 gb 0 l.toArray := by
      intro j hj
      simp only [List.size_toArray] at hj
      have h1 : (cur.toList.take n)[j]? = (l.map (Value.int .i64))[j]? := by rw [ht]
      rw [List.getElem?_take_of_lt (by omega), Array.getElem?_toList, List.getElem?_map, List.getElem?_eq_getElem hj] at h1
      refine ⟨?_, by simp [World.frozen?, hg]⟩
      simp only [World.cell?, hg, Nat.zero_add, h1, Option.map_some]
      rw [getElem!_pos l.toArray j (by simpa using hj)]
      simp
    have h := AnyM.slices_Sort_int sortInts gb 0 cap l w0 hH (lt_of_heap hg) (by omega)
    rw [hl] at h
    refine Calls.mono h ?_
    rintro e w' ⟨rfl, m, os, rfl⟩
    have hlen : (sortI l).length = n := by rw [(sortI_perm l).length_eq, hl]
    obtain ⟨h1, h2⟩ := putI_take (cur := cur) (l := sortI l) (by omega)
    have hlt := lt_of_heap hg
    have hHp : (Sort.grow (Sort.putRow (Value.int .i64) (Sort.ahead w0 m) gb 0 (sortI l).toArray) os).heap = w0.heap.modify gb (Sort.onCells (Sort.putCells (Value.int .i64) 0 (sortI l).toArray)) ++ os := rfl
    have hsz : (w0.heap.modify gb (Sort.onCells (Sort.putCells (Value.int .i64) 0 (sortI l).toArray))).size = w0.heap.size := by simp
    refine ⟨_, rfl, rfl, ⟨rfl, rfl, rfl, ?_, ?_⟩, ⟨?_, .inr ⟨gb, cap, Sort.putCells (Value.int .i64) 0 (sortI l).toArray cur, rfl, Nat.zero_le _, ?_, hnc, hcap, ?_, ?_⟩⟩⟩
    · show w0.heap.size ≤ (Sort.grow (Sort.putRow (Value.int .i64) (Sort.ahead w0 m) gb 0 (sortI l).toArray) os).heap.size
      rw [hHp, Array.size_append, hsz]; omega
    · intro k hk hne
      show (Sort.grow (Sort.putRow (Value.int .i64) (Sort.ahead w0 m) gb 0 (sortI l).toArray) os).heap[k]? = _
      rw [hHp, Array.getElem?_append, if_pos (by rw [hsz]; exact hk), Array.getElem?_modify, if_neg (fun e => hne (by rw [e]; rfl))]
    · rw [flat_encI, List.length_map, hlen, Nat.mul_one]
    · show (Sort.grow (Sort.putRow (Value.int .i64) (Sort.ahead w0 m) gb 0 (sortI l).toArray) os).heap[gb]? = _
      rw [hHp, Array.getElem?_append, if_pos (by rw [hsz]; exact hlt), Array.getElem?_modify, if_pos rfl, hg]
      rfl
    · rw [h2, hcs, Nat.mul_one]
    · rw [Nat.mul_one, ← hlen, h1, flat_encI]
end Go.Proofs.YtmoilbakmlekbaaGreatDoor

/- part A1 -/
namespace Bx
abbrev Seat := Int × Int × Int
def fset {α β : Type} [DecidableEq α] (f : α → β) (k : α) (v : β) : α → β := fun x => if x = k then v else f x
theorem fset_same {α β : Type} [DecidableEq α] (f : α → β) (k : α) (v : β) : fset f k v k = v := if_pos rfl
theorem fset_ne {α β : Type} [DecidableEq α] (f : α → β) {k x : α} (v : β) (h : x ≠ k) : fset f k v x = f x := if_neg h
structure Mst where
  tried : Seat → Bool
  taken : Seat → Option Int
  seats : Int → Option Seat
def Mst.mark (st : Mst) (s : Seat) : Mst := { st with tried := fset st.tried s true }
def Mst.put (st : Mst) (s : Seat) (i : Int) : Mst := { st with taken := fset st.taken s (some i), seats := fset st.seats i (some s) }
def goF (fx : Int → Bool) (rec : Int → Mst → Bool × Mst) (i : Int) : List Seat → Mst → Bool × Mst
  | [], st => (false, st)
  | s :: l, st =>
    if st.tried s = true then goF fx rec i l st
    else match st.taken s with
      | none => (true, (st.mark s).put s i)
      | some o => if fx o = true then goF fx rec i l (st.mark s)
        else if (rec o (st.mark s)).1 = true then (true, (rec o (st.mark s)).2.put s i)
        else goF fx rec i l (rec o (st.mark s)).2
def moveF (fx : Int → Bool) (sl : Int → List Seat) : Nat → Int → Mst → Bool × Mst
  | 0, _, st => (false, st)
  | n + 1, i, st => goF fx (moveF fx sl n) i (sl i) st
theorem goF_skip {fx : Int → Bool} {rec : Int → Mst → Bool × Mst} {i : Int} {s : Seat} {l : List Seat} {st : Mst} (h : st.tried s = true) : goF fx rec i (s :: l) st = goF fx rec i l st := by rw [goF, if_pos h]
theorem goF_free {fx : Int → Bool} {rec : Int → Mst → Bool × Mst} {i : Int} {s : Seat} {l : List Seat} {st : Mst} (h : st.tried s = false) (ht : st.taken s = none) : goF fx rec i (s :: l) st = (true, (st.mark s).put s i) := by rw [goF, if_neg (by rw [h]; decide), ht]
theorem goF_fix {fx : Int → Bool} {rec : Int → Mst → Bool × Mst} {i o : Int} {s : Seat} {l : List Seat} {st : Mst} (h : st.tried s = false) (ht : st.taken s = some o) (hf : fx o = true) : goF fx rec i (s :: l) st = goF fx rec i l (st.mark s) := by rw [goF, if_neg (by rw [h]; decide), ht]; exact if_pos hf
theorem goF_yes {fx : Int → Bool} {rec : Int → Mst → Bool × Mst} {i o : Int} {s : Seat} {l : List Seat} {st : Mst} (h : st.tried s = false) (ht : st.taken s = some o) (hf : fx o = false) (hr : (rec o (st.mark s)).1 = true) : goF fx rec i (s :: l) st = (true, (rec o (st.mark s)).2.put s i) := by
  rw [goF, if_neg (by rw [h]; decide), ht]; exact (if_neg (by rw [hf]; decide)).trans (if_pos hr)
theorem goF_no {fx : Int → Bool} {rec : Int → Mst → Bool × Mst} {i o : Int} {s : Seat} {l : List Seat} {st : Mst} (h : st.tried s = false) (ht : st.taken s = some o) (hf : fx o = false) (hr : (rec o (st.mark s)).1 = false) : goF fx rec i (s :: l) st = goF fx rec i l (rec o (st.mark s)).2 := by
  rw [goF, if_neg (by rw [h]; decide), ht]; exact (if_neg (by rw [hf]; decide)).trans (if_neg (by rw [hr]; decide))
/-- What is tried stays so. -/
def Mono (st st' : Mst) : Prop := ∀ s, st.tried s = true → st'.tried s = true
theorem Mono.refl (st : Mst) : Mono st st := fun _ h => h
theorem Mono.trans {a b c : Mst} (h : Mono a b) (k : Mono b c) : Mono a c := fun s hs => k s (h s hs)
theorem mono_mark (st : Mst) (s : Seat) : Mono st (st.mark s) := fun x h => by
  show fset st.tried s true x = true
  unfold fset; split
  · rfl
  · exact h
theorem goF_mono {fx : Int → Bool} {rec : Int → Mst → Bool × Mst} (hr : ∀ o st, Mono st (rec o st).2) (i : Int) : ∀ (l : List Seat) (st : Mst), Mono st (goF fx rec i l st).2
  | [], st => Mono.refl st
  | s :: l, st => by
    by_cases h : st.tried s = true
    · rw [goF_skip h]; exact goF_mono hr i l st
    · have h' : st.tried s = false := by simpa using h
      cases ht : st.taken s with
      | none => rw [goF_free h' ht]; exact mono_mark st s
      | some o =>
        cases hf : fx o with
        | true => rw [goF_fix h' ht hf]; exact (mono_mark st s).trans (goF_mono hr i l _)
        | false =>
          cases hq : (rec o (st.mark s)).1 with
          | true => rw [goF_yes h' ht hf hq]; exact (mono_mark st s).trans (hr o _)
          | false => rw [goF_no h' ht hf hq]; exact ((mono_mark st s).trans (hr o _)).trans (goF_mono hr i l _)
theorem moveF_mono {fx : Int → Bool} {sl : Int → List Seat} : ∀ (n : Nat) (i : Int) (st : Mst), Mono st (moveF fx sl n i st).2
  | 0, _, st => Mono.refl st
  | n + 1, i, st => goF_mono (moveF_mono n) i (sl i) st
/-- How many seats are not tried. -/
def cntU (U : List Seat) (tr : Seat → Bool) : Nat := (U.filter fun s => !tr s).length
theorem cntU_mono {U : List Seat} {a b : Seat → Bool} (h : ∀ s, a s = true → b s = true) : cntU U b ≤ cntU U a := by
  unfold cntU
  induction U with
  | nil => exact Nat.le_refl _
  | cons x U ih =>
    cases hb : b x with
    | true =>
      rw [List.filter_cons_of_neg (by simp [hb])]
      cases ha : a x with
      | true => rw [List.filter_cons_of_neg (by simp [ha])]; exact ih
      | false => rw [List.filter_cons_of_pos (by simp [ha])]; simp only [List.length_cons]; omega
    | false =>
      have ha : a x = false := by
        cases ha : a x with
        | false => rfl
        | true => rw [h x ha] at hb; cases hb
      rw [List.filter_cons_of_pos (by simp [hb]), List.filter_cons_of_pos (by simp [ha])]
      simp only [List.length_cons]; omega
theorem cntU_mark {U : List Seat} {st : Mst} {s : Seat} (hs : s ∈ U) (h : st.tried s = false) : cntU U (st.mark s).tried < cntU U st.tried := by
  unfold cntU
  induction U with
  | nil => cases hs
  | cons x U ih =>
    have hm := cntU_mono (U := U) (mono_mark st s)
    unfold cntU at hm
    by_cases hx : x = s
    · subst hx
      rw [List.filter_cons_of_neg (by simp [Mst.mark, fset_same]), List.filter_cons_of_pos (by simp [h])]
      simp only [List.length_cons]; omega
    · have hU : s ∈ U := by
        rcases List.mem_cons.1 hs with e | e
        · exact absurd e.symm hx
        · exact e
      have := ih hU
      have hq : (st.mark s).tried x = st.tried x := fset_ne _ _ hx
      cases ha : st.tried x with
      | true => rw [List.filter_cons_of_neg (by simp [hq, ha]), List.filter_cons_of_neg (by simp [ha])]; exact this
      | false => rw [List.filter_cons_of_pos (by simp [hq, ha]), List.filter_cons_of_pos (by simp [ha])]; simp only [List.length_cons]; omega
/-- What a search that found nothing leaves. -/
structure Fail (fx : Int → Bool) (sl : Int → List Seat) (l : List Seat) (st st' : Mst) : Prop where
  taken : st'.taken = st.taken
  seats : st'.seats = st.seats
  mono : Mono st st'
  all : ∀ s ∈ l, st'.tried s = true
  new : ∀ s, st'.tried s = true → st.tried s = false → ∃ o, st.taken s = some o ∧ (fx o = true ∨ ∀ x ∈ sl o, st'.tried x = true)
theorem Fail.nil {fx : Int → Bool} {sl : Int → List Seat} {st : Mst} : Fail fx sl [] st st := ⟨rfl, rfl, Mono.refl st, fun _ h => (nomatch h), fun s h1 h2 => by rw [h1] at h2; cases h2⟩
theorem Fail.skip {fx : Int → Bool} {sl : Int → List Seat} {s : Seat} {l : List Seat} {st st' : Mst} (hs : st.tried s = true) (h : Fail fx sl l st st') : Fail fx sl (s :: l) st st' :=
  ⟨h.taken, h.seats, h.mono, fun x hx => by
    rcases List.mem_cons.1 hx with rfl | hx
    · exact h.mono _ hs
    · exact h.all x hx, h.new⟩
theorem Fail.fix {fx : Int → Bool} {sl : Int → List Seat} {s : Seat} {l : List Seat} {o : Int} {st st' : Mst} (ht : st.taken s = some o) (hf : fx o = true) (h : Fail fx sl l (st.mark s) st') : Fail fx sl (s :: l) st st' :=
  ⟨h.taken, h.seats, (mono_mark st s).trans h.mono, fun x hx => by
    rcases List.mem_cons.1 hx with rfl | hx
    · exact h.mono _ (fset_same _ _ _)
    · exact h.all x hx, fun x h1 h2 => by
      by_cases hx : x = s
      · subst hx; exact ⟨o, ht, .inl hf⟩
      · exact h.new x h1 ((fset_ne _ _ hx).trans h2)⟩
/-- What a search that found a seat for i leaves: i's older seat, if it had one, is still told as its own. -/
structure Found (fx : Int → Bool) (sl : Int → List Seat) (l : List Seat) (i : Int) (st st' : Mst) : Prop where
  new : ∃ s ∈ l, st.tried s = false ∧ st'.tried s = true ∧ st'.seats i = some s ∧ ∀ x, st'.taken x = some i ↔ x = s ∨ st.seats i = some x
  cons : ∀ j, j ≠ i → ∀ s, st'.seats j = some s ↔ st'.taken s = some j
  keep : ∀ j, j ≠ i → (∀ s, st.seats j = some s → st.tried s = true ∨ fx j = true) → st'.seats j = st.seats j
  still : ∀ j s, st.seats j = some s → ∃ x, st'.seats j = some x
  fit : ∀ j s, st'.seats j = some s → st.seats j = some s ∨ (s ∈ sl j ∨ j = i ∧ s ∈ l)
end Bx

/- part A2 -/
namespace Bx
theorem pig {α β : Type} [DecidableEq β] : ∀ (l : List α) (f : α → β) (m : List β), l.Nodup → (∀ x ∈ l, f x ∈ m) → (∀ x ∈ l, ∀ y ∈ l, f x = f y → x = y) → l.length ≤ m.length
  | [], _, _, _, _, _ => Nat.zero_le _
  | x :: l, f, m, hn, h, hi => by
    have hx := h x (List.mem_cons_self ..)
    have hn' := List.nodup_cons.1 hn
    have := pig l f (m.erase (f x)) hn'.2 (fun y hy => (List.mem_erase_of_ne (fun e => by
      have := hi y (List.mem_cons_of_mem _ hy) x (List.mem_cons_self ..) e
      subst this; exact hn'.1 hy)).2 (h y (List.mem_cons_of_mem _ hy))) (fun a ha b hb => hi a (List.mem_cons_of_mem _ ha) b (List.mem_cons_of_mem _ hb))
    rw [List.length_erase_of_mem hx] at this
    have := List.length_pos_of_mem hx
    simp only [List.length_cons]; omega
section
variable {fx : Int → Bool} {sl : Int → List Seat} {W : List Int} {st st' : Mst} {town : Int}
end
end Bx

/- part A3 -/
namespace Bx
/-- What a plan is made of: the tick now, the towns, their channels, the last tick by a channel, the room of a channel. -/
structure Pl where
  now : Int
  W : List Int
  chans : Int → List Int
  latest : Int → Int → Int
  room : Int → Int
def Pl.at (P : Pl) (i sent : Int) (l : List Int) : List (Int × Int) := (l.filter fun c => decide (sent ≤ P.latest i c)).map fun c => (c, sent)
/-- The pairs of a channel and a tick at which a town hears in time; as many ticks as there are towns. -/
def Pl.places (P : Pl) (i : Int) : List (Int × Int) := (List.range P.W.length).flatMap fun (d : Nat) => P.at i (P.now + (d : Int)) (P.chans i)
def Pl.nums (P : Pl) (x : Int × Int) : List Seat := (List.range (P.room x.1).toNat).map fun (k : Nat) => (x.1, x.2, (k : Int))
def Pl.sl (P : Pl) (i : Int) : List Seat := (P.places i).flatMap P.nums
def fdel {α β : Type} [DecidableEq α] (f : α → Option β) (k : α) : α → Option β := fun x => if x = k then none else f x
def Pl.settle (P : Pl) (n : Nat) (fx : Int → Bool) (i : Int) (tk : Seat → Option Int) (st : Int → Option Seat) : Bool × Mst := moveF fx P.sl n i ⟨fun _ => false, tk, st⟩
/-- The maps of a plan: who has a seat; which seat one has; who is fixed. -/
structure Pst where
  taken : Seat → Option Int
  seats : Int → Option Seat
  fixed : Int → Bool
def Pst.free (p : Pst) (i : Int) : Pst := { p with taken := fdel p.taken ((p.seats i).getD (0, 0, 0)), seats := fdel p.seats i }
def Pst.sit (p : Pst) (s : Seat) (i : Int) : Pst := { p with taken := fset p.taken s (some i), seats := fset p.seats i (some s), fixed := fset p.fixed i true }
/-- The first one of some seats that nobody fixed has is given to a town. -/
def Pl.try (P : Pl) (n : Nat) (i : Int) (p : Pst) : List Seat → Bool × Pst
  | [] => (false, p)
  | s :: l => match p.taken s with
    | none => (true, (p.free i).sit s i)
    | some o => if p.fixed o = true then P.try n i p l
      else if o = i then (true, (p.free i).sit s i)
      else if (P.settle n (((p.free i).free o).sit s i).fixed o (((p.free i).free o).sit s i).taken (((p.free i).free o).sit s i).seats).1 = true
        then (true, ⟨(P.settle n (((p.free i).free o).sit s i).fixed o (((p.free i).free o).sit s i).taken (((p.free i).free o).sit s i).seats).2.taken, (P.settle n (((p.free i).free o).sit s i).fixed o (((p.free i).free o).sit s i).taken (((p.free i).free o).sit s i).seats).2.seats, (((p.free i).free o).sit s i).fixed⟩)
        else (false, { p with fixed := fset p.fixed i false })
def Pl.pick (P : Pl) (n : Nat) (i : Int) : List (Int × Int) → Pst → Pst
  | [], p => p
  | x :: l, p => if (P.try n i p (P.nums x)).1 = true then (P.try n i p (P.nums x)).2 else P.pick n i l (P.try n i p (P.nums x)).2
structure Slot where
  town : Int
  channel : Int
  sent : Int
deriving DecidableEq
def Pl.seatAll (P : Pl) (n : Nat) : List Int → (Seat → Option Int) → (Int → Option Seat) → Option ((Seat → Option Int) × (Int → Option Seat))
  | [], tk, st => some (tk, st)
  | i :: l, tk, st => if (P.settle n (fun _ => false) i tk st).1 = true then P.seatAll n l (P.settle n (fun _ => false) i tk st).2.taken (P.settle n (fun _ => false) i tk st).2.seats else none
def slotOf (p : Pst) (i : Int) : Slot := ⟨i, ((p.seats i).getD (0, 0, 0)).1, ((p.seats i).getD (0, 0, 0)).2.1⟩
def Pl.fixAll (P : Pl) (n : Nat) : List Int → Pst → List Slot
  | [], _ => []
  | i :: l, p => slotOf (P.pick n i (P.places i) p) i :: P.fixAll n l (P.pick n i (P.places i) p)
/-- The plan; none: there is none. n: how deep a search may go. -/
def Pl.plan (P : Pl) (n : Nat) : Option (List Slot) :=
  match P.seatAll n P.W (fun _ => none) (fun _ => none) with
  | none => none
  | some (tk, st) => some (P.fixAll n P.W ⟨tk, st, fun _ => false⟩)
def Pl.Fits (P : Pl) (i : Int) (s : Seat) : Prop := s.1 ∈ P.chans i ∧ P.now ≤ s.2.1 ∧ s.2.1 ≤ P.latest i s.1 ∧ 0 ≤ s.2.2 ∧ s.2.2 < P.room s.1
theorem mem_at {P : Pl} {i sent : Int} {l : List Int} {x : Int × Int} : x ∈ P.at i sent l ↔ x.1 ∈ l ∧ x.2 = sent ∧ sent ≤ P.latest i x.1 := by
  obtain ⟨c, s⟩ := x
  simp only [Pl.at, List.mem_map, List.mem_filter, decide_eq_true_eq, Prod.mk.injEq]
  constructor
  · rintro ⟨a, ⟨h1, h2⟩, rfl, rfl⟩; exact ⟨h1, rfl, h2⟩
  · rintro ⟨h1, rfl, h2⟩; exact ⟨c, ⟨h1, h2⟩, rfl, rfl⟩
theorem mem_places {P : Pl} {i : Int} {x : Int × Int} : x ∈ P.places i ↔ x.1 ∈ P.chans i ∧ P.now ≤ x.2 ∧ x.2 < P.now + P.W.length ∧ x.2 ≤ P.latest i x.1 := by
  simp only [Pl.places, List.mem_flatMap, List.mem_range, mem_at]
  constructor
  · rintro ⟨d, h1, h2, h3, h4⟩; exact ⟨h2, by omega, by omega, by omega⟩
  · rintro ⟨h1, h2, h3, h4⟩; exact ⟨(x.2 - P.now).toNat, by omega, h1, by omega, by omega⟩
theorem mem_nums {P : Pl} {x : Int × Int} {s : Seat} : s ∈ P.nums x ↔ s.1 = x.1 ∧ s.2.1 = x.2 ∧ 0 ≤ s.2.2 ∧ s.2.2 < P.room x.1 := by
  obtain ⟨a, b, c⟩ := s
  simp only [Pl.nums, List.mem_map, List.mem_range, Prod.mk.injEq]
  constructor
  · rintro ⟨k, h1, rfl, rfl, rfl⟩; exact ⟨rfl, rfl, by omega, by omega⟩
  · rintro ⟨rfl, rfl, h3, h4⟩; exact ⟨c.toNat, by omega, rfl, rfl, by omega⟩
theorem mem_sl {P : Pl} {i : Int} {s : Seat} : s ∈ P.sl i ↔ P.Fits i s ∧ s.2.1 < P.now + P.W.length := by
  simp only [Pl.sl, List.mem_flatMap, mem_places, mem_nums, Pl.Fits]
  constructor
  · rintro ⟨x, ⟨h1, h2, h3, h4⟩, h5, h6, h7, h8⟩
    rw [← h5] at h1 h4 h8; rw [← h6] at h2 h3 h4
    exact ⟨⟨h1, h2, h4, h7, h8⟩, h3⟩
  · rintro ⟨⟨h1, h2, h3, h4, h5⟩, h6⟩
    exact ⟨(s.1, s.2.1), ⟨h1, h2, h6, h3⟩, rfl, rfl, h4, h5⟩
/-- All seats there are, at so many ticks. -/
def Pl.all (P : Pl) (C : List Int) : List Seat := C.flatMap fun c => (List.range P.W.length).flatMap fun (d : Nat) => P.nums (c, P.now + (d : Int))
theorem sl_allC {P : Pl} {C : List Int} (hC : ∀ i, ∀ c ∈ P.chans i, c ∈ C) (i : Int) : ∀ s ∈ P.sl i, s ∈ P.all C := by
  intro s hs
  obtain ⟨⟨h1, h2, h3, h4, h5⟩, h6⟩ := mem_sl.1 hs
  simp only [Pl.all, List.mem_flatMap, List.mem_range, mem_nums]
  exact ⟨s.1, hC i _ h1, (s.2.1 - P.now).toNat, by omega, rfl, by simp; omega, h4, h5⟩
theorem len_flatMap_le {α β : Type} (f : α → List β) (k : Nat) : ∀ l : List α, (∀ x ∈ l, (f x).length ≤ k) → (l.flatMap f).length ≤ l.length * k
  | [], _ => by simp
  | x :: l, h => by
    have := len_flatMap_le f k l fun y hy => h y (List.mem_cons_of_mem _ hy)
    have := h x (List.mem_cons_self ..)
    simp only [List.flatMap_cons, List.length_append, List.length_cons, Nat.succ_mul]
    omega
theorem all_len {P : Pl} {C : List Int} (hr : ∀ c, P.room c ≤ 20) : (P.all C).length ≤ C.length * (P.W.length * 20) := by
  refine len_flatMap_le _ _ _ fun c _ => ?_
  refine Nat.le_trans (len_flatMap_le _ 20 _ fun d _ => ?_) (by simp)
  simp only [Pl.nums, List.length_map, List.length_range]
  have := hr c
  omega
theorem cntU_le (U : List Seat) (tr : Seat → Bool) : cntU U tr ≤ U.length := List.length_filter_le _ _
end Bx

/- part A5 -/
namespace Bx
/-- Who sits where; each where it can. -/
structure Sat (P : Pl) (tk : Seat → Option Int) (st : Int → Option Seat) : Prop where
  cons : ∀ i s, st i = some s ↔ tk s = some i
  fit : ∀ i s, st i = some s → i ∈ P.W ∧ s ∈ P.sl i
theorem Sat.none (P : Pl) : Sat P (fun _ => none) (fun _ => none) := ⟨fun _ _ => ⟨fun h => (nomatch h), fun h => (nomatch h)⟩, fun _ _ h => (nomatch h)⟩
section
variable {P : Pl} {C : List Int} {n : Nat}
/-- Some of the towns, and seats that are all there are for them: fewer than they. -/
def Few (P : Pl) : Prop := ∃ (p : Int → Bool) (T : List Seat), (∀ a ∈ P.W.filter p, ∀ s, P.Fits a s → s ∈ T) ∧ T.length < (P.W.filter p).length
end
structure Mat (P : Pl) (M : Int → Seat) : Prop where
  inj : ∀ a ∈ P.W, ∀ b ∈ P.W, M a = M b → a = b
  fit : ∀ j ∈ P.W, P.Fits j (M j)
theorem Few.no {P : Pl} (hW : P.W.Nodup) (h : Few P) {M : Int → Seat} (hM : Mat P M) : False := by
  obtain ⟨p, T, h1, h2⟩ := h
  have := pig (P.W.filter p) M T (hW.filter _) (fun a ha => h1 a ha _ (hM.fit a (List.mem_filter.1 ha).1)) (fun a ha b hb e => hM.inj a (List.mem_filter.1 ha).1 b (List.mem_filter.1 hb).1 e)
  omega
abbrev plc (s : Seat) : Int × Int := (s.1, s.2.1)
def sw (a b s : Seat) : Seat := if s = a then b else if s = b then a else s
theorem sw_inj {a b x y : Seat} (h : sw a b x = sw a b y) : x = y := by
  unfold sw at h
  split at h <;> split at h <;> (try split at h) <;> (try split at h) <;> simp_all
theorem sw_plc {a b s : Seat} (h : plc a = plc b) : plc (sw a b s) = plc s := by
  unfold sw; split
  · next e => rw [e, h]
  · split
    · next e => rw [e, h]
    · rfl
theorem Pl.Fits.of {P : Pl} {j : Int} {s s' : Seat} (h : P.Fits j s) (hp : plc s' = plc s) (h0 : 0 ≤ s'.2.2) (h1 : s'.2.2 < P.room s'.1) : P.Fits j s' := by
  simp only [Prod.mk.injEq] at hp
  exact ⟨by rw [hp.1]; exact h.1, by rw [hp.2]; exact h.2.1, by rw [hp.1, hp.2]; exact h.2.2.1, h0, h1⟩
theorem Mat.swap {P : Pl} {M : Int → Seat} (hM : Mat P M) {a b : Seat} (hp : plc a = plc b) (ha : 0 ≤ a.2.2 ∧ a.2.2 < P.room a.1) (hb : 0 ≤ b.2.2 ∧ b.2.2 < P.room b.1) : Mat P (fun j => sw a b (M j)) :=
  ⟨fun x hx y hy e => hM.inj x hx y hy (sw_inj e), fun j hj => by
    have hf := hM.fit j hj
    refine hf.of (sw_plc hp) ?_ ?_
    · show 0 ≤ (sw a b (M j)).2.2
      unfold sw; split
      · exact hb.1
      · split
        · exact ha.1
        · exact hf.2.2.2.1
    · show (sw a b (M j)).2.2 < P.room (sw a b (M j)).1
      unfold sw; split
      · exact hb.2
      · split
        · exact ha.2
        · exact hf.2.2.2.2⟩
end Bx

/- part A6 -/
namespace Bx
section
variable {P : Pl} {p : Pst} {i o : Int} {s si : Seat}
end
structure Inv (P : Pl) (p : Pst) (D : List Int) : Prop where
  sat : Sat P p.taken p.seats
  full : ∀ j ∈ P.W, ∃ s, p.seats j = some s
  fix : ∀ j, p.fixed j = true ↔ j ∈ D
  sub : ∀ j ∈ D, j ∈ P.W
  nod : D.Nodup
theorem sl_of {P : Pl} {i : Int} {x : Int × Int} (hx : x ∈ P.places i) {s : Seat} (hs : s ∈ P.nums x) : s ∈ P.sl i := List.mem_flatMap.2 ⟨x, hx, hs⟩
section
variable {P : Pl} {C : List Int} {n : Nat} {p : Pst} {D : List Int} {i : Int} {x : Int × Int}
theorem Inv.snoc {p' : Pst} (hI : Inv P p D) (hiW : i ∈ P.W) (hiD : i ∉ D) (hS : Sat P p'.taken p'.seats) (hf : ∀ j ∈ P.W, ∃ s, p'.seats j = some s) (hx : p'.fixed = fset p.fixed i true) : Inv P p' (D ++ [i]) where
  sat := hS
  full := hf
  fix := fun j => by
    rw [hx, List.mem_append, List.mem_singleton, ← hI.fix j]
    by_cases e : j = i
    · subst e; rw [fset_same]; simp
    · rw [fset_ne _ _ e]; simp [e]
  sub := fun j hj => by
    rcases List.mem_append.1 hj with h | h
    · exact hI.sub j h
    · rw [List.mem_singleton.1 h]; exact hiW
  nod := List.nodup_append.2 ⟨hI.nod, by simp, fun a ha b hb e => by rw [List.mem_singleton.1 hb] at e; exact hiD (e ▸ ha)⟩
end
end Bx

/- part A7 -/
namespace Bx
def Slot.pl (s : Slot) : Int × Int := (s.channel, s.sent)
def usedN (l : List Slot) (x : Int × Int) : Nat := (l.filter fun s => decide (s.channel = x.1 ∧ s.sent = x.2)).length
/-- Slots that can be, each behind those before it. -/
def OkL (P : Pl) (pre : List Slot) : List Slot → Prop
  | [] => True
  | s :: l => (s.channel ∈ P.chans s.town ∧ P.now ≤ s.sent ∧ s.sent ≤ P.latest s.town s.channel ∧ (usedN pre s.pl : Int) < P.room s.channel) ∧ OkL P (pre ++ [s]) l
theorem OkL.app {P : Pl} : ∀ (a pre b : List Slot), OkL P pre (a ++ b) ↔ OkL P pre a ∧ OkL P (pre ++ a) b
  | [], pre, b => by simp [OkL]
  | s :: a, pre, b => by
    simp only [List.cons_append, OkL, OkL.app a (pre ++ [s]) b, List.append_assoc, List.nil_append, and_assoc]
end Bx

/- part A8 -/
namespace Bx
def Pl.cnt (P : Pl) (c : Int) (A : List Int) : Int := A.foldl (fun m i => if c ∈ P.chans i then max m (P.latest i c - P.now + 1) else m) 0
def Pl.slots (P : Pl) (C A : List Int) : Int := (C.map fun c => P.cnt c A * P.room c).sum
theorem sum_const {α : Type} (k : Int) : ∀ l : List α, (l.map fun _ => k).sum = l.length * k
  | [] => by simp
  | x :: l => by rw [List.map_cons, List.sum_cons, sum_const k l, List.length_cons, Int.natCast_succ, Int.add_mul]; omega
/-- Towns that have fewer slots than they are. -/
def Pl.blk (P : Pl) (C A : List Int) : Prop := P.slots C A < A.length
def lexB : List Int → List Int → Bool
  | a :: l, b :: m => decide (a < b) || (decide (a = b) && lexB l m)
  | _, _ => false
end Bx

/- part A4 -/
namespace Bx
open Go Go.RowKit
structure Chan where
  name : ByteArray
  delay : Int
  room : Int
structure Town where
  name : ByteArray
  polder : Int
  travel : Int
  lead : Int
  chans : List Int
structure Task where
  polders : Int
  chans : List Chan
  towns : List Town
  floods : List (List Int)
def chanC (c : Chan) : List Value := [.string c.name, .int .i64 c.delay, .int .i64 c.room]
def RChan (_ : World) (cs : List Value) (c : Chan) : Prop := cs = chanC c ∧ c.name.size ≤ 9223372036854775807 ∧ I64 c.delay ∧ I64 c.room
theorem RChan.stays : Stays RChan := fun _ _ _ _ _ h => h
def RTown (w : World) (cs : List Value) (x : Town) : Prop := ∃ cv, cs = [.string x.name, .int .i64 x.polder, .int .i64 x.travel, .int .i64 x.lead, cv] ∧ x.name.size ≤ 9223372036854775807 ∧ I64 x.polder ∧ I64 x.travel ∧ I64 x.lead ∧ Sl w 1 RInt cv x.chans ∧ Room x.chans.length 8
theorem RTown.stays : Stays RTown := fun _ _ _ _ e ⟨dv, h1, h2, h3, h4, h5, h6, h7⟩ => ⟨dv, h1, h2, h3, h4, h5, h6.ext RInt.stays e, h7⟩
def RRow (w : World) (cs : List Value) (l : List Int) : Prop := ∃ v, cs = [v] ∧ Sl w 1 RInt v l
theorem RRow.stays : Stays RRow := fun _ _ _ _ e ⟨v, h1, h2⟩ => ⟨v, h1, h2.ext RInt.stays e⟩
def RTask (w : World) (cs : List Value) (t : Task) : Prop := ∃ hv nv fv, cs = [.int .i64 t.polders, hv, nv, fv] ∧ I64 t.polders ∧ Sl w 3 RChan hv t.chans ∧ Sl w 5 RTown nv t.towns ∧ Sl w 1 RRow fv t.floods
theorem RTask.stays : Stays RTask := fun _ _ _ _ e ⟨hv, nv, fv, h1, h2, h3, h4, h5⟩ => ⟨hv, nv, fv, h1, h2, h3.ext RChan.stays e, h4.ext RTown.stays e, h5.ext RRow.stays e⟩
theorem RTask.ext {w w' : World} {cs : List Value} {t : Task} (h : RTask w cs t) (e : Ext w w') : RTask w' cs t := RTask.stays _ _ _ _ e h
def chanE (c : Chan) : Int := if (outB c.delay 0 50 || outB c.room 0 20) = true then 7 else 0
def townE (pol nch : Int) (x : Town) : Int := if (outB x.polder 0 (pol - 1) || x.chans.any fun c => outB c 0 (nch - 1)) = true then 4 else if ¬ x.chans.Nodup then 5 else if (outB x.travel 0 500 || outB x.lead 0 500) = true then 7 else 0
def floodE (pol : Int) (l : List Int) : Int := if (l.length : Int) ≠ pol then 2 else if (l.any fun n => outB n (-1) 200000) = true then 7 else 0
def firstR {α : Type} (f : α → Int) : List α → Int → Int × Int
  | [], _ => (0, 0)
  | x :: l, i => if f x ≠ 0 then (i, f x) else firstR f l (i + 1)
def checkA (t : Task) : Int × Int × Int :=
  if outB t.polders 0 6 = true then (1, 0, 7)
  else if (4 : Int) < t.chans.length then (2, 0, 3)
  else if (namedR (·.name) chanE t.chans [] 0).2 ≠ 0 then (2, namedR (·.name) chanE t.chans [] 0)
  else if (8 : Int) < t.towns.length then (3, 0, 3)
  else if (namedR (·.name) (townE t.polders t.chans.length) t.towns [] 0).2 ≠ 0 then (3, namedR (·.name) (townE t.polders t.chans.length) t.towns [] 0)
  else if outB t.floods.length 1 8 = true then (4, 0, 3)
  else if (firstR (floodE t.polders) t.floods 0).2 ≠ 0 then (4, firstR (floodE t.polders) t.floods 0)
  else (0, 0, 0)
def arrStep (x : Town) (s : Span × Int) (l : List Int) : Span × Int :=
  if l.getD x.polder.toNat 0 < 0 then s
  else if s.2 = 0 then (⟨l.getD x.polder.toNat 0 + x.travel, l.getD x.polder.toNat 0 + x.travel⟩, 1)
  else (⟨min s.1.lo (l.getD x.polder.toNat 0 + x.travel), max s.1.hi (l.getD x.polder.toNat 0 + x.travel)⟩, s.2 + 1)
def arrF (t : Task) (x : Town) : Span × Int := t.floods.foldl (arrStep x) (⟨0, 0⟩, 0)
def twn (t : Task) (i : Int) : Town := t.towns.getD i.toNat ⟨⟨#[]⟩, 0, 0, 0, []⟩
def chn (t : Task) (c : Int) : Chan := t.chans.getD c.toNat ⟨⟨#[]⟩, 0, 0⟩
def arr (t : Task) (i : Int) : Span × Int := arrF t (twn t i)
def actF (t : Task) (i : Int) : Int := (arr t i).1.lo - (twn t i).lead
def stageF (t : Task) (i now : Int) : Int := if (arr t i).2 = 0 then 0 else if (arr t i).2 = t.floods.length then 2 else if actF t i ≤ now then 2 else 1
def idxL (t : Task) : List Int := (List.range t.towns.length).map Int.ofNat
def wetL (t : Task) : List Int := (idxL t).filter fun i => decide (0 < (arr t i).2)
def latestF (t : Task) (i c : Int) : Int := min 200000 (actF t i - (chn t c).delay)
/-- The task as what a plan is made of. -/
def plT (t : Task) (now : Int) : Pl := ⟨now, wetL t, fun i => (twn t i).chans, latestF t, fun c => (chn t c).room⟩
def chL (t : Task) : List Int := (List.range t.chans.length).map Int.ofNat
def fuelT (t : Task) : Nat := t.chans.length * ((wetL t).length * 20) + 1
def planA (t : Task) (now : Int) : Option (List Slot) := (plT t now).plan (fuelT t)
def atE (t : Task) (now : Int) : Int := if (checkA t).2.2 ≠ 0 then (checkA t).2.2 else if outB now 0 200000 = true then 7 else 0
def ofE (t : Task) (i : Int) : Int := if (checkA t).2.2 ≠ 0 then (checkA t).2.2 else if outB i 0 (t.towns.length - 1) = true then 4 else 0
def planR (t : Task) (now : Int) : List Slot × Int := if atE t now ≠ 0 then ([], atE t now) else match planA t now with | none => ([], 9) | some l => (l, 0)
def stageR (t : Task) (i now : Int) : Int × Int := if ofE t i ≠ 0 then (0, ofE t i) else if outB now 0 200000 = true then (0, 7) else (stageF t i now, 0)
theorem namedR_ok {α : Type} {nm : α → ByteArray} {rest : α → Int} : ∀ (l : List α) (seen : List ByteArray) (i : Int), (namedR nm rest l seen i).2 = 0 → (∀ x ∈ l, isName (nm x) = true ∧ rest x = 0 ∧ memB (nm x) seen = false) ∧ (l.map nm).Nodup
  | [], _, _, _ => ⟨fun _ h => (nomatch h), by simp⟩
  | x :: l, seen, i, h => by
    rw [namedR] at h
    split at h
    next => cases h
    next h1 =>
      split at h
      next => cases h
      next h2 =>
        split at h
        next h3 => exact absurd h h3
        next h3 =>
          obtain ⟨k1, k2⟩ := namedR_ok l _ _ h
          refine ⟨fun y hy => ?_, List.nodup_cons.2 ⟨fun hm => ?_, k2⟩⟩
          · rcases List.mem_cons.1 hy with rfl | hy
            · exact ⟨by simpa using h1, by simpa using h3, by simpa using h2⟩
            · have := k1 y hy
              rw [memB_snoc] at this
              simp only [Bool.or_eq_false_iff] at this
              exact ⟨this.1, this.2.1, this.2.2.1⟩
          · obtain ⟨y, hy, e⟩ := List.mem_map.1 hm
            have := (k1 y hy).2.2
            rw [memB_snoc] at this
            simp only [Bool.or_eq_false_iff, decide_eq_false_iff_not] at this
            exact this.2 e
theorem firstR_ok {α : Type} {f : α → Int} : ∀ (l : List α) (i : Int), (firstR f l i).2 = 0 → ∀ x ∈ l, f x = 0
  | [], _, _, _, h => (nomatch h)
  | x :: l, i, h, y, hy => by
    rw [firstR] at h
    split at h
    next h1 => exact absurd h h1
    next h1 =>
      rcases List.mem_cons.1 hy with rfl | hy
      · simpa using h1
      · exact firstR_ok l _ h y hy
structure TownOk (t : Task) (x : Town) : Prop where
  pol : 0 ≤ x.polder ∧ x.polder < t.polders
  chans : ∀ c ∈ x.chans, 0 ≤ c ∧ c < t.chans.length
  nod : x.chans.Nodup
  travel : 0 ≤ x.travel ∧ x.travel ≤ 500
  lead : 0 ≤ x.lead ∧ x.lead ≤ 500
structure TaskOk (t : Task) : Prop where
  pol : 0 ≤ t.polders ∧ t.polders ≤ 6
  nch : t.chans.length ≤ 4
  chan : ∀ c ∈ t.chans, 0 ≤ c.delay ∧ c.delay ≤ 50 ∧ 0 ≤ c.room ∧ c.room ≤ 20
  ntw : t.towns.length ≤ 8
  town : ∀ x ∈ t.towns, TownOk t x
  nfl : 1 ≤ t.floods.length ∧ t.floods.length ≤ 8
  flood : ∀ l ∈ t.floods, (l.length : Int) = t.polders ∧ ∀ n ∈ l, -1 ≤ n ∧ n ≤ 200000
theorem townE_ok {t : Task} {x : Town} (h : townE t.polders t.chans.length x = 0) : TownOk t x := by
  unfold townE at h
  split at h
  next => cases h
  next h1 =>
    split at h
    next => cases h
    next h2 =>
      split at h
      next => cases h
      next h3 =>
        simp only [Bool.or_eq_true, not_or, Bool.not_eq_true, outB_false, List.any_eq_true, not_exists, not_and, Bool.not_eq_true, Decidable.not_not] at h1 h2 h3
        exact ⟨by omega, fun c hc => by have := h1.2 c hc; omega, h2, h3.1, h3.2⟩
theorem task_ok {t : Task} (h : (checkA t).2.2 = 0) : TaskOk t := by
  unfold checkA at h
  split at h
  next => cases h
  next h1 =>
    split at h
    next => cases h
    next h2 =>
      split at h
      next h3 => exact absurd h h3
      next h3 =>
        split at h
        next => cases h
        next h4 =>
          split at h
          next h5 => exact absurd h h5
          next h5 =>
            split at h
            next => cases h
            next h6 =>
              split at h
              next h7 => exact absurd h h7
              next h7 =>
                simp only [Bool.not_eq_true, outB_false, Decidable.not_not] at h1 h3 h5 h6 h7
                refine ⟨h1, by omega, fun c hc => ?_, by omega, fun x hx => townE_ok ((namedR_ok _ _ _ h5).1 x hx).2.1, by omega, fun l hl => ?_⟩
                · have k := ((namedR_ok _ _ _ h3).1 c hc).2.1
                  unfold chanE at k
                  split at k
                  next => cases k
                  next k1 =>
                    simp only [Bool.or_eq_true, not_or, Bool.not_eq_true, outB_false] at k1
                    omega
                · have k := firstR_ok _ _ h7 l hl
                  unfold floodE at k
                  split at k
                  next => cases k
                  next k1 =>
                    split at k
                    next => cases k
                    next k2 =>
                      simp only [List.any_eq_true, not_exists, not_and, Bool.not_eq_true, Decidable.not_not] at k1 k2
                      exact ⟨k1, fun n hn => by have := k2 n hn; first | exact outB_false.1 this | exact this⟩
end Bx

/- part LibF -/
namespace Bx
open Go Go.RowKit
section
variable {κ ν : Type} [DecidableEq κ] {P : Program}
abbrev Tri (κ ν : Type) := κ × ν × Nat
def ent (enc : κ → Value) (dec : ν → Value) (x : Tri κ ν) : MapEntry := ⟨enc x.1, dec x.2.1, x.2.2⟩
def asc : List (Tri κ ν) → κ → Option ν
  | [], _ => none
  | x :: m, k => if k = x.1 then some x.2.1 else asc m k
structure MapS (enc : κ → Value) (dec : ν → Value) (F : κ → Option ν) (m : List (Tri κ ν)) (c : Nat) (o : Obj) : Prop where
  obj : o = .map (m.map (ent enc dec)).toArray c
  keys : (m.map (·.1)).Nodup
  born : (m.map (·.2.2)).Nodup
  clock : ∀ x ∈ m, x.2.2 < c
  fn : ∀ k, asc m k = F k
def MapP (enc : κ → Value) (dec : ν → Value) (F : κ → Option ν) (o : Obj) : Prop := ∃ m c, MapS enc dec F m c o
abbrev mapF (b : Nat) (enc : κ → Value) (dec : ν → Value) (F : κ → Option ν) : Item := cellI b (MapP enc dec F)
abbrev mapT (b : Nat) (enc : κ → Value) (dec : ν → Value) (F : κ → Option ν) (m : List (Tri κ ν)) (c : Nat) : Item := cellI b (MapS enc dec F m c)
/-- A map in which a key's entry waits for its value. -/
def MapE (enc : κ → Value) (dec : ν → Value) (F : κ → Option ν) (k : κ) (st : Nat) (o : Obj) : Prop := ∃ m c F0, MapS enc dec F0 m c o ∧ (∀ j, j ≠ k → F0 j = F j) ∧ ∃ v, (k, v, st) ∈ m
theorem asc_none : ∀ {m : List (Tri κ ν)} {k : κ}, asc m k = none ↔ ∀ x ∈ m, x.1 ≠ k
  | [], k => by simp [asc]
  | x :: m, k => by
    rw [asc]
    by_cases h : k = x.1
    · rw [if_pos h]; simp; intro hh; exact absurd h.symm hh
    · rw [if_neg h, asc_none]; simp; intro _; exact fun e => h e.symm
theorem asc_mem : ∀ {m : List (Tri κ ν)} {k : κ} {v : ν}, (m.map (·.1)).Nodup → (asc m k = some v ↔ ∃ b, (k, v, b) ∈ m)
  | [], k, v, _ => by simp [asc]
  | x :: m, k, v, hn => by
    rw [List.map_cons, List.nodup_cons] at hn
    rw [asc]
    by_cases h : k = x.1
    · rw [if_pos h]
      subst h
      constructor
      · intro e; cases e; exact ⟨x.2.2, List.mem_cons_self ..⟩
      · rintro ⟨b, hb⟩
        rcases List.mem_cons.1 hb with e | e
        · rw [← e]
        · exact absurd (List.mem_map.2 ⟨_, e, rfl⟩) hn.1
    · rw [if_neg h, asc_mem hn.2]
      constructor
      · rintro ⟨b, hb⟩; exact ⟨b, List.mem_cons_of_mem _ hb⟩
      · rintro ⟨b, hb⟩
        rcases List.mem_cons.1 hb with e | e
        · exact absurd (congrArg Prod.fst e) h
        · exact ⟨b, e⟩
theorem asc_mid (l1 l2 : List (Tri κ ν)) (x : Tri κ ν) (v : ν) (b : Nat) (hn : ((l1 ++ x :: l2).map (·.1)).Nodup) (k : κ) : asc (l1 ++ (x.1, v, b) :: l2) k = if k = x.1 then some v else asc (l1 ++ x :: l2) k := by
  induction l1 with
  | nil =>
    rw [List.nil_append, List.nil_append, asc, asc]
    by_cases h : k = x.1
    · rw [if_pos h, if_pos h]
    · rw [if_neg h, if_neg h, if_neg h]
  | cons y l1 ih =>
    simp only [List.cons_append, List.map_cons, List.nodup_cons] at hn
    have ih := ih hn.2
    simp only [List.cons_append, asc, ih]
    by_cases h : k = y.1
    · subst h
      have : y.1 ≠ x.1 := fun e => hn.1 (by simp [e])
      simp [this]
    · simp [h]
theorem asc_push (m : List (Tri κ ν)) (x : Tri κ ν) (hx : asc m x.1 = none) (k : κ) : asc (m ++ [x]) k = if k = x.1 then some x.2.1 else asc m k := by
  induction m with
  | nil => rfl
  | cons y m ih =>
    rw [asc] at hx
    split at hx
    · cases hx
    next hne =>
      simp only [List.cons_append, asc, ih hx]
      by_cases h : k = y.1
      · subst h
        have h2 : ¬ y.1 = x.1 := fun e => hne e.symm
        simp [h2]
      · simp [h]
theorem asc_erase (l1 l2 : List (Tri κ ν)) (x : Tri κ ν) (hn : ((l1 ++ x :: l2).map (·.1)).Nodup) (k : κ) : asc (l1 ++ l2) k = if k = x.1 then none else asc (l1 ++ x :: l2) k := by
  induction l1 with
  | nil =>
    rw [List.nil_append, List.nil_append, asc]
    simp only [List.nil_append, List.map_cons, List.nodup_cons] at hn
    by_cases h : k = x.1
    · rw [if_pos h]; refine asc_none.2 fun y hy e => hn.1 (List.mem_map.2 ⟨y, hy, e.trans h⟩)
    · rw [if_neg h, if_neg h]
  | cons y l1 ih =>
    simp only [List.cons_append, List.map_cons, List.nodup_cons] at hn
    have ih := ih hn.2
    simp only [List.cons_append, asc, ih]
    by_cases h : k = y.1
    · subst h
      have : y.1 ≠ x.1 := fun e => hn.1 (by simp [e])
      simp [this]
    · simp [h]
theorem asc_split {m : List (Tri κ ν)} {k : κ} {v : ν} {b : Nat} (h : (k, v, b) ∈ m) : ∃ l1 l2, m = l1 ++ (k, v, b) :: l2 := List.append_of_mem h
theorem modify_mid {α : Type} (f : α → α) (x : α) (l2 : List α) : ∀ l1 : List α, (l1 ++ x :: l2).modify l1.length f = l1 ++ f x :: l2
  | [] => rfl
  | y :: l1 => by simp [List.modify_succ_cons, modify_mid f x l2 l1]
theorem erase_mid {α : Type} (x : α) (l2 : List α) : ∀ l1 : List α, (l1 ++ x :: l2).eraseIdx l1.length = l1 ++ l2
  | [] => rfl
  | y :: l1 => by simp [erase_mid x l2 l1]
/-- A key's type: how keys are found, and that they are told apart. -/
structure KeyI (P : Program) (T : TypeId) (enc : κ → Value) : Prop where
  fn : KeyFn P T enc
  inj : ∀ a b, enc a = enc b → a = b
theorem KeyOk.fnI {T : TypeId} {enc : κ → Value} (hk : KeyOk P T enc) : KeyI P T enc := by
  obtain ⟨d, hd, hs, h2⟩ := hk.und
  refine ⟨⟨fun e k w => run_checkKey hk e _ w, fun k es m w h => ?_, hk.bits⟩, fun a b e => ?_⟩
  · obtain ⟨r, hr, h1, h2, h3⟩ := findNow_get hs k es m 0 h
    exact ⟨r, by simp [Instr.findKey, run_underlying hd, hr], h1, h2, h3⟩
  · have h1 := hs a a
    have h3 := hs a b
    rw [← e, h1] at h3
    simpa using h3
theorem run_find {T : TypeId} {enc : κ → Value} {dec : ν → Value} (hk : KeyI P T enc) (k : κ) (m : List (Tri κ ν)) (hn : (m.map (·.1)).Nodup) (w : World) :
    ∃ r, (Instr.findKey T (enc k) (m.map (ent enc dec))).run P w = .ok r w ∧ ((r = none ∧ asc m k = none) ∨ ∃ l1 v b l2, m = l1 ++ (k, v, b) :: l2 ∧ r = some (l1.length, dec v) ∧ asc m k = some v) := by
  obtain ⟨r, hr, h1, h2, h3⟩ := hk.fn.find k (m.map (ent enc dec)) (m.map fun x => (x.1, dec x.2.1)) w (by simp [ent, Function.comp_def])
  refine ⟨r, hr, ?_⟩
  have hget : ∀ m : List (Tri κ ν), getM (m.map fun x => (x.1, dec x.2.1)) k = (asc m k).map dec := by
    intro m
    induction m with
    | nil => rfl
    | cons x m ih => simp only [List.map_cons, getM, asc]; split <;> simp_all
  rw [hget] at h1
  cases r with
  | none =>
    refine .inl ⟨rfl, ?_⟩
    cases ha : asc m k with
    | none => rfl
    | some v => rw [ha] at h1; cases h1
  | some p =>
    obtain ⟨j, v0⟩ := p
    obtain ⟨l, hj, hl, hkey, -⟩ := h2 j v0 rfl
    rw [Nat.zero_add] at hj
    subst hj
    have hl' : j < m.length := by simpa using hl
    have hkk : (m[j]).1 = k := hk.inj _ _ (by simpa [ent] using hkey)
    have hsplit : m = m.take j ++ m[j] :: m.drop (j + 1) := by simp
    have hasc : asc m k = some (m[j]).2.1 := (asc_mem hn).2 ⟨(m[j]).2.2, by rw [← hkk]; exact List.getElem_mem hl'⟩
    rw [hasc] at h1
    simp only [Option.map_some, Option.some.injEq] at h1
    refine .inr ⟨m.take j, (m[j]).2.1, (m[j]).2.2, m.drop (j + 1), ?_, ?_, hasc⟩
    · have e : m[j] = (k, (m[j]).2.1, (m[j]).2.2) := by rw [← hkk]
      rw [← e]; exact hsplit
    · rw [h1, List.length_take, Nat.min_eq_left (by omega)]
variable {T K E : TypeId} {enc : κ → Value} {dec : ν → Value} {F : κ → Option ν} {w : World} {b : Nat} {k : κ} {v : ν}
theorem run_lookupF {z : Value} {ok : Bool} (hT : ∀ w, (underlying T).run P w = .ok (.map K E) w) (hk : KeyI P K enc) (hz : ∀ w, (zeroValue E).run P w = .ok z w) (hb : ∃ o, w.heap[b]? = some o ∧ MapP enc dec F o) :
    (Instr.lookup T (.map (some b)) (enc k) ok).run P w = .ok (if ok then .tuple #[((F k).map dec).getD z, .bool (F k).isSome] else ((F k).map dec).getD z) w := by
  obtain ⟨o, hb, m, c, rfl, hn, -, -, hf⟩ := hb
  obtain ⟨r, hr, hor⟩ := run_find hk k m hn w (dec := dec)
  have hget : (getObj b).run P w = .ok (.map (m.map (ent enc dec)).toArray c) w := by simp [getObj, Sem.run, hb]
  rw [← hf k]
  rcases hor with ⟨rfl, ha⟩ | ⟨l1, v, bn, l2, -, rfl, ha⟩
  · rw [ha]
    cases ok <;> simp [Instr.lookup, hT, hget, hk.fn.check, hr, hz]
  · rw [ha]
    cases ok <;> simp [Instr.lookup, hT, hget, hk.fn.check, hr, hz]
theorem set_obj {es : Array MapEntry} {c0 : Nat} {o' : Obj} (hb : w.heap[b]? = some (.map es c0)) : (setObj b o').run P w = .ok () { w with heap := w.heap.setIfInBounds b o' } ∧ Put b o' w { w with heap := w.heap.setIfInBounds b o' } := by
  have hlt := lt_of_heap hb
  refine ⟨by simp [setObj, Sem.run, hb], rfl, rfl, rfl, by simp, by simp [hlt], fun j _ hj => ?_⟩
  show (w.heap.setIfInBounds b o')[j]? = _
  rw [Array.getElem?_setIfInBounds, if_neg (fun e => hj e.symm)]
theorem MapS.put {m : List (Tri κ ν)} {c : Nat} {o : Obj} {l1 l2 : List (Tri κ ν)} {v0 : ν} {bn : Nat} (h : MapS enc dec F m c o) (hm : m = l1 ++ (k, v0, bn) :: l2) (v : ν) :
    MapS enc dec (fset F k (some v)) (l1 ++ (k, v, bn) :: l2) c (.map ((l1 ++ (k, v, bn) :: l2).map (ent enc dec)).toArray c) where
  obj := rfl
  keys := by have := h.keys; rw [hm] at this; simpa using this
  born := by have := h.born; rw [hm] at this; simpa using this
  clock := fun x hx => by
    have := h.clock
    rw [hm] at this
    simp only [List.mem_append, List.mem_cons] at hx this
    rcases hx with hx | rfl | hx
    · exact this x (.inl hx)
    · exact this (k, v0, bn) (.inr (.inl rfl))
    · exact this x (.inr (.inr hx))
  fn := fun j => by
    have hk := h.keys
    rw [hm] at hk
    have := asc_mid l1 l2 (k, v0, bn) v bn hk j
    simp only at this
    rw [this, ← hm, h.fn]; rfl
theorem MapS.push {m : List (Tri κ ν)} {c : Nat} {o : Obj} (h : MapS enc dec F m c o) (hk : asc m k = none) (v : ν) : MapS enc dec (fset F k (some v)) (m ++ [(k, v, c)]) (c + 1) (.map ((m ++ [(k, v, c)]).map (ent enc dec)).toArray (c + 1)) where
  obj := rfl
  keys := by
    rw [List.map_append]
    refine List.nodup_append.2 ⟨h.keys, by simp, fun a ha x hx e => ?_⟩
    simp only [List.map_cons, List.map_nil, List.mem_singleton] at hx
    obtain ⟨y, hy, rfl⟩ := List.mem_map.1 ha
    exact asc_none.1 hk y hy (e.trans hx)
  born := by
    rw [List.map_append]
    refine List.nodup_append.2 ⟨h.born, by simp, fun a ha x hx e => ?_⟩
    simp only [List.map_cons, List.map_nil, List.mem_singleton] at hx
    obtain ⟨y, hy, rfl⟩ := List.mem_map.1 ha
    have := h.clock y hy
    omega
  clock := fun x hx => by
    rcases List.mem_append.1 hx with hx | hx
    · exact Nat.lt_succ_of_lt (h.clock x hx)
    · rw [List.mem_singleton.1 hx]; exact Nat.lt_succ_self _
  fn := fun j => by
    rw [asc_push m (k, v, c) hk j, h.fn]; rfl
theorem run_updF (hT : ∀ w, (underlying T).run P w = .ok (.map K E) w) (hk : KeyI P K enc) (hb : ∃ o, w.heap[b]? = some o ∧ MapP enc dec F o) :
    ∃ o' w', (Instr.mapUpdate T (.map (some b)) (enc k) (dec v)).run P w = .ok () w' ∧ Put b o' w w' ∧ MapP enc dec (fset F k (some v)) o' := by
  obtain ⟨o, hb, m, c, hm⟩ := hb
  have ho := hm.obj
  subst ho
  obtain ⟨r, hr, hor⟩ := run_find hk k m hm.keys w (dec := dec)
  have hget : (getObj b).run P w = .ok (.map (m.map (ent enc dec)).toArray c) w := by simp [getObj, Sem.run, hb]
  rcases hor with ⟨rfl, ha⟩ | ⟨l1, v0, bn, l2, hsp, rfl, ha⟩
  · obtain ⟨s1, s2⟩ := set_obj (P := P) (o' := .map ((m ++ [(k, v, c)]).map (ent enc dec)).toArray (c + 1)) hb
    refine ⟨_, _, ?_, s2, _, _, hm.push ha v⟩
    have e : (m.map (ent enc dec)).toArray.push ⟨enc k, dec v, c⟩ = ((m ++ [(k, v, c)]).map (ent enc dec)).toArray := by simp [ent]
    simp only [Instr.mapUpdate, Sem.run_bind, hT, Result.andThen_ok, hget, hk.fn.check, hr, Sem.run_pure, e, s1]
  · obtain ⟨s1, s2⟩ := set_obj (P := P) (o' := .map ((l1 ++ (k, v, bn) :: l2).map (ent enc dec)).toArray c) hb
    refine ⟨_, _, ?_, s2, _, _, hm.put hsp v⟩
    have e : (m.map (ent enc dec)).toArray.modify l1.length (fun e => { e with key := enc k, val := dec v }) = ((l1 ++ (k, v, bn) :: l2).map (ent enc dec)).toArray := by
      apply Array.ext'
      rw [Array.toList_modify, hsp]
      simp only [List.map_append, List.map_cons]
      have := modify_mid (fun e : MapEntry => { e with key := enc k, val := dec v }) (ent enc dec (k, v0, bn)) (l2.map (ent enc dec)) (l1.map (ent enc dec))
      rw [List.length_map] at this
      rw [this]; rfl
    have hst : ∀ w, (Instr.keyThatStays ((((m.map (ent enc dec)).toArray[l1.length]?).map (·.key)).getD (enc k)) (enc k)).run P w = .ok (enc k) w := fun w => by
      have : (m.map (ent enc dec)).toArray[l1.length]? = some (ent enc dec (k, v0, bn)) := by rw [hsp]; simp
      rw [this]
      simp [Instr.keyThatStays, ent, hk.fn.bits]
    simp only [Instr.mapUpdate, Sem.run_bind, hT, Result.andThen_ok, hget, hk.fn.check, hr, Sem.run_pure, hst, e, s1]
theorem run_entryF {z0 : ν} (hT : ∀ w, (underlying T).run P w = .ok (.map K E) w) (hk : KeyI P K enc) (hz : ∀ w, (zeroValue E).run P w = .ok (dec z0) w) (hb : ∃ o, w.heap[b]? = some o ∧ MapP enc dec F o) :
    ∃ v0 st o' w', (Instr.mapEntry T (.map (some b)) (enc k)).run P w = .ok (.tuple #[v0, .int .i64 (st : Nat)]) w' ∧ Put b o' w w' ∧ MapE enc dec F k st o' := by
  obtain ⟨o, hb, m, c, hm⟩ := hb
  have ho := hm.obj
  subst ho
  obtain ⟨r, hr, hor⟩ := run_find hk k m hm.keys w (dec := dec)
  have hget : (getObj b).run P w = .ok (.map (m.map (ent enc dec)).toArray c) w := by simp [getObj, Sem.run, hb]
  rcases hor with ⟨rfl, ha⟩ | ⟨l1, v0, bn, l2, hsp, rfl, ha⟩
  · obtain ⟨s1, s2⟩ := set_obj (P := P) (o' := .map ((m ++ [(k, z0, c)]).map (ent enc dec)).toArray (c + 1)) hb
    refine ⟨dec z0, c, _, _, ?_, s2, _, _, _, hm.push ha z0, fun j hj => fset_ne _ _ hj, z0, by simp⟩
    have e : (m.map (ent enc dec)).toArray.push ⟨enc k, dec z0, c⟩ = ((m ++ [(k, z0, c)]).map (ent enc dec)).toArray := by simp [ent]
    simp only [Instr.mapEntry, Sem.run_bind, hT, Result.andThen_ok, hget, hk.fn.check, hr, hz, Sem.run_pure, e, s1]
    rfl
  · obtain ⟨s1, s2⟩ := set_obj (P := P) (o' := .map ((l1 ++ (k, v0, bn) :: l2).map (ent enc dec)).toArray c) hb
    refine ⟨dec v0, bn, _, _, ?_, s2, _, _, _, hm.put hsp v0, fun j hj => fset_ne _ _ hj, v0, by simp⟩
    have e : (m.map (ent enc dec)).toArray.modify l1.length (fun e => { e with key := enc k }) = ((l1 ++ (k, v0, bn) :: l2).map (ent enc dec)).toArray := by
      apply Array.ext'
      rw [Array.toList_modify, hsp]
      simp only [List.map_append, List.map_cons]
      have := modify_mid (fun e : MapEntry => { e with key := enc k }) (ent enc dec (k, v0, bn)) (l2.map (ent enc dec)) (l1.map (ent enc dec))
      rw [List.length_map] at this
      rw [this]; rfl
    have hj : (m.map (ent enc dec)).toArray[l1.length]? = some (ent enc dec (k, v0, bn)) := by rw [hsp]; simp
    have hst : ∀ w, (Instr.keyThatStays ((((m.map (ent enc dec)).toArray[l1.length]?).map (·.key)).getD (enc k)) (enc k)).run P w = .ok (enc k) w := fun w => by
      rw [hj]
      simp [Instr.keyThatStays, ent, hk.fn.bits]
    simp only [Instr.mapEntry, Sem.run_bind, hT, Result.andThen_ok, hget, hk.fn.check, hr, Sem.run_pure, hst, e, s1]
    rw [hj]
    rfl
theorem find_born {l1 l2 : List MapEntry} {x : MapEntry} (hn : ((l1 ++ x :: l2).map (·.born)).Nodup) : (l1 ++ x :: l2).findIdx? (fun e => (e.born : Int) == (x.born : Int)) = some l1.length := by
  induction l1 with
  | nil => simp [List.findIdx?_cons]
  | cons y l1 ih =>
    simp only [List.cons_append, List.map_cons, List.nodup_cons] at hn
    have : ((y.born : Int) == (x.born : Int)) = false := by
      simp only [beq_eq_false_iff_ne, ne_eq, Int.natCast_inj]
      exact fun e => hn.1 (by simp [e])
    rw [List.cons_append, List.findIdx?_cons, this]
    simp [ih hn.2]
theorem run_estoreF {st : Nat} (hb : ∃ o, w.heap[b]? = some o ∧ MapE enc dec F k st o) : ∃ o' w', (Instr.entryStore T (.map (some b)) (.int .i64 (st : Nat)) (dec v)).run P w = .ok () w' ∧ Put b o' w w' ∧ MapP enc dec (fset F k (some v)) o' := by
  obtain ⟨o, hb, m, c, F0, hm, hF, v0, hmem⟩ := hb
  have ho := hm.obj
  subst ho
  obtain ⟨l1, l2, hsp⟩ := asc_split hmem
  have hget : (getObj b).run P w = .ok (.map (m.map (ent enc dec)).toArray c) w := by simp [getObj, Sem.run, hb]
  obtain ⟨s1, s2⟩ := set_obj (P := P) (o' := .map ((l1 ++ (k, v, st) :: l2).map (ent enc dec)).toArray c) hb
  have h2 := hm.put hsp v
  refine ⟨_, _, ?_, s2, _, _, h2.obj, h2.keys, h2.born, h2.clock, fun j => ?_⟩
  · have hidx : (m.map (ent enc dec)).toArray.findIdx? (fun e => (e.born : Int) == (st : Int)) = some l1.length := by
      have := find_born (l1 := l1.map (ent enc dec)) (l2 := l2.map (ent enc dec)) (x := ent enc dec (k, v0, st)) (by
        have h := hm.born
        rw [hsp] at h
        simpa [ent, Function.comp_def] using h)
      rw [List.length_map] at this
      rw [hsp]
      simpa [ent] using this
    have e : (m.map (ent enc dec)).toArray.modify l1.length (fun e => { e with val := dec v }) = ((l1 ++ (k, v, st) :: l2).map (ent enc dec)).toArray := by
      apply Array.ext'
      rw [Array.toList_modify, hsp]
      simp only [List.map_append, List.map_cons]
      have := modify_mid (fun e : MapEntry => { e with val := dec v }) (ent enc dec (k, v0, st)) (l2.map (ent enc dec)) (l1.map (ent enc dec))
      rw [List.length_map] at this
      rw [this]; rfl
    clear s2 h2
    generalize ((l1 ++ (k, v, st) :: l2).map (ent enc dec)).toArray = G at e s1 ⊢
    simp [Instr.entryStore, hget, asInt, asIntOf, hidx, e, s1, Result.andThen]
  · rw [h2.fn j]
    unfold fset
    by_cases e : j = k
    · rw [if_pos e, if_pos e]
    · rw [if_neg e, if_neg e]; exact hF j e
theorem run_delF {ty : TypeId} (hT : ∀ w, (underlying T).run P w = .ok (.map K E) w) (hk : KeyI P K enc) (hb : ∃ o, w.heap[b]? = some o ∧ MapP enc dec F o) :
    ∃ o' w', (Builtin.delete_ #[T, K] ty #[.map (some b), enc k]).run P w = .ok (.tuple #[]) w' ∧ Put b o' w w' ∧ MapP enc dec (fdel F k) o' := by
  obtain ⟨o, hb, m, c, hm⟩ := hb
  have ho := hm.obj
  subst ho
  obtain ⟨r, hr, hor⟩ := run_find hk k m hm.keys w (dec := dec)
  have hget : (getObj b).run P w = .ok (.map (m.map (ent enc dec)).toArray c) w := by simp [getObj, Sem.run, hb]
  rcases hor with ⟨rfl, ha⟩ | ⟨l1, v0, bn, l2, hsp, rfl, ha⟩
  · obtain ⟨s1, s2⟩ := set_obj (P := P) (o' := .map (m.map (ent enc dec)).toArray c) hb
    refine ⟨_, _, ?_, s2, m, c, rfl, hm.keys, hm.born, hm.clock, fun j => ?_⟩
    · simp [Builtin.delete_, hT, hget, hk.fn.check, hr, s1]
    · unfold fdel
      by_cases e : j = k
      · rw [if_pos e, e, ha]
      · rw [if_neg e]; exact hm.fn j
  · obtain ⟨s1, s2⟩ := set_obj (P := P) (o' := .map ((l1 ++ l2).map (ent enc dec)).toArray c) hb
    have hk1 := hm.keys
    have hb1 := hm.born
    have hc1 := hm.clock
    have hf1 := hm.fn
    rw [hsp] at hk1 hb1 hc1
    refine ⟨_, _, ?_, s2, l1 ++ l2, c, rfl, ?_, ?_, fun x hx => hc1 x (by simp only [List.mem_append, List.mem_cons] at hx ⊢; exact hx.imp id .inr), fun j => ?_⟩
    · have e : (m.map (ent enc dec)).toArray.eraseIdxIfInBounds l1.length = ((l1 ++ l2).map (ent enc dec)).toArray := by
        apply Array.ext'
        rw [Array.toList_eraseIdxIfInBounds, hsp]
        simp only [List.map_append, List.map_cons]
        have := erase_mid (ent enc dec (k, v0, bn)) (l2.map (ent enc dec)) (l1.map (ent enc dec))
        rw [List.length_map] at this
        exact this
      clear s2
      generalize ((l1 ++ l2).map (ent enc dec)).toArray = G at e s1 ⊢
      have e2 : ((m.map (ent enc dec)).eraseIdx l1.length).toArray = G := by rw [← e]; simp
      simp [Builtin.delete_, hT, hget, hk.fn.check, hr, e2, s1]
    · rw [List.map_append, List.map_cons] at hk1; rw [List.map_append]
      exact hk1.sublist (List.Sublist.append_left (List.sublist_cons_self _ _) _)
    · rw [List.map_append, List.map_cons] at hb1; rw [List.map_append]
      exact hb1.sublist (List.Sublist.append_left (List.sublist_cons_self _ _) _)
    · rw [asc_erase l1 l2 (k, v0, bn) hk1 j, ← hsp, hf1]; rfl
end
end Bx

/- part LibH -/
namespace Bx
open Go Go.RowKit
/-- L with something else of what lies at b. -/
class SetA (L : List Item) (b : Nat) (Lf : outParam ((Obj → Prop) → List Item)) where
  inst : ∀ p, SetB L b p (Lf p)
instance (priority := high) setaHere (b : Nat) (p : Obj → Prop) (L : List Item) : SetA (cellI b p :: L) b (fun q => cellI b q :: L) := ⟨fun q => setHere b p q L⟩
instance (priority := low) setaThere (it : Item) (L : List Item) (b : Nat) (Lf : (Obj → Prop) → List Item) [i : SetA L b Lf] : SetA (it :: L) b (fun q => it :: Lf q) := ⟨fun q => @setThere it L b q (Lf q) (i.inst q)⟩
theorem put_self {b : Nat} {o : Obj} {w : World} (h : w.heap[b]? = some o) : Put b o w w := ⟨rfl, rfl, rfl, Nat.le_refl _, h, fun _ _ _ => rfl⟩
theorem StX.re {S : List Nat} {w0 w : World} {L L' : List Item} {b : Nat} {p : Obj → Prop} (h : StX S w0 w L) (ho : ∃ o, w.heap[b]? = some o ∧ p o) [i : SetB L b p L'] : StX S w0 w L' := by
  obtain ⟨o, h1, h2⟩ := ho
  exact h.puts (put_self h1) h2
section
variable {κ ν : Type} [DecidableEq κ] {enc : κ → Value} {dec : ν → Value} {F : κ → Option ν} {m : List (Tri κ ν)} {c b : Nat}
theorem StX.opn {S : List Nat} {w0 w : World} {L : List Item} (h : StX S w0 w L) (b : Nat) [i : AtB L b (MapP enc dec F)] : ∃ m c, ∃ o, w.heap[b]? = some o ∧ MapS enc dec F m c o := by
  obtain ⟨o, h1, m, c, h2⟩ := h.is b
  exact ⟨m, c, o, h1, h2⟩
theorem StX.shut {S : List Nat} {w0 w : World} {L L' : List Item} (h : StX S w0 w L) (b : Nat) [i : AtB L b (MapS enc dec F m c)] [j : SetB L b (MapP enc dec F) L'] : StX S w0 w L' := by
  obtain ⟨o, h1, h2⟩ := h.is b
  exact h.re (b := b) (p := MapP enc dec F) ⟨o, h1, m, c, h2⟩
variable {P : Program} {ρ : Operand → Value} {w : World} {ty : TypeId} {T K E : TypeId} {k : κ} {z v : Value} {xm xk : Operand}
theorem yLookF (hm : ρ xm = .map (some b)) (hx : ρ xk = enc k) (hT : ∀ w, (underlying T).run P w = .ok (.map K E) w) (hk : KeyI P K enc) (hz : ∀ w, (zeroValue E).run P w = .ok z w) (hb : ∃ o, w.heap[b]? = some o ∧ MapP enc dec F o) (hv : ((F k).map dec).getD z = v) :
    Y P ρ (.lookup T xm xk false) ty w v w := by
  have := run_lookupF (k := k) (ok := false) hT hk hz hb
  subst hv
  simp [Y, xop, execOp, hm, hx, this]
theorem yLookFOk (hm : ρ xm = .map (some b)) (hx : ρ xk = enc k) (hT : ∀ w, (underlying T).run P w = .ok (.map K E) w) (hk : KeyI P K enc) (hz : ∀ w, (zeroValue E).run P w = .ok z w) (hb : ∃ o, w.heap[b]? = some o ∧ MapP enc dec F o) (hv : ((F k).map dec).getD z = v) :
    Y P ρ (.lookup T xm xk true) ty w (.tuple #[v, .bool (F k).isSome]) w := by
  have := run_lookupF (k := k) (ok := true) hT hk hz hb
  subst hv
  simp [Y, xop, execOp, hm, hx, this]
theorem yEntryR {x : Tri κ ν} {seen : List Nat} {bi : Nat} {xi : Operand} (hx : ρ xi = .pointer (some ⟨bi, 0, none⟩)) (hi : w.heap[bi]? = some (.mapIter (some b) c (seen ++ [x.2.2]).toArray c)) (hb : ∃ o, w.heap[b]? = some o ∧ MapS enc dec F m c o) (hm : x ∈ m) :
    Y P ρ (.entry xi) ty w (.tuple #[enc x.1, dec x.2.1]) w := by
  obtain ⟨o, hb, hS⟩ := hb
  have ho := hS.obj
  subst ho
  have h1 : (getObj bi).run P w = .ok (.mapIter (some b) c (seen ++ [x.2.2]).toArray c) w := by simp only [getObj, Sem.run, hi]
  have h2 : (getObj b).run P w = .ok (.map (m.map (ent enc dec)).toArray c) w := by simp only [getObj, Sem.run, hb]
  have h3 : (m.map (ent enc dec)).find? (fun e => e.born == x.2.2) = some (ent enc dec x) := by
    have hbn := hS.born
    clear hS hb h2
    induction m with
    | nil => cases hm
    | cons y m ih =>
      rw [List.map_cons, List.nodup_cons] at hbn
      rw [List.map_cons, List.find?_cons]
      by_cases e : y.2.2 = x.2.2
      · have : y = x := by
          rcases List.mem_cons.1 hm with h | h
          · exact h.symm
          · exact absurd (List.mem_map.2 ⟨x, h, e.symm⟩) hbn.1
        subst this
        simp [ent]
      · have : ((ent enc dec y).born == x.2.2) = false := by simpa [ent] using e
        rw [this]
        refine ih ?_ hbn.2
        rcases List.mem_cons.1 hm with h | h
        · exact absurd (congrArg (fun q : Tri κ ν => q.2.2) h.symm) e
        · exact h
  have h4 : (m.map (ent enc dec)).toArray.find? (fun e => e.born == x.2.2) = some (ent enc dec x) := by rw [List.find?_toArray]; exact h3
  simp only [Y, xop, execOp, hx, Instr.entry, Sem.run_bind, h1, Result.andThen_ok]
  simp [h2, h4, Result.andThen, ent]
end
section
variable {κ ν : Type} [DecidableEq κ] {enc : κ → Value} {dec : ν → Value} {F : κ → Option ν} {m : List (Tri κ ν)} {c b bi st : Nat} {seen : List Nat} {z0 u : ν} {k : κ}
variable {P : Program} {ops : Array Oper} {Q : Exit → Act → World → Prop} {n : Nat} {f : Fr} {S : List Nat} {w0 w w' : World} {L L' : List Item} {rest : List Oper} {d : Nat} {ty : TypeId} {pos : String} {af : Array Edge} {T K E K' : TypeId} {xm xk xv xi xs : Operand}
omit [DecidableEq κ] in
theorem MapP.nil [DecidableEq κ] : MapP enc dec (fun _ : κ => (none : Option ν)) (.map #[] 0) := ⟨[], 0, rfl, by simp, by simp, fun _ h => (nomatch h), fun _ => rfl⟩
theorem smkmapF (enc : κ → Value) (dec : ν → Value) (hS : StX S w0 w L) (h : ∀ b w', StX S w0 w' (mapF b enc dec (fun _ => none) :: L) → wpL P ops Q n rest (upd f d (.map (some b))) w') : wpL P ops Q n (⟨some d, .makeMap T none, ty, pos, af, none⟩ :: rest) f w := by
  refine sv (v := .map (some w.heap.size)) (w' := w.alloc (.map #[] 0)) ?_ (h w.heap.size _ (hS.call1 ⟨(ext_alloc w _).extX, ?_, ?_, ?_⟩))
  · simp [Y, xop, execOp, Instr.makeMap]
  · intro it hit
    obtain rfl : it = _ := by simpa using hit
    exact ⟨_, heap_alloc_new w _, MapP.nil⟩
  · intro b hb
    obtain rfl : b = _ := by simpa [fps, cellI] using hb
    exact .inl (Nat.le_refl _)
  · simp [fps, cellI]
theorem smapsetF (hS : StX S w0 w L) (hm : ev n f xm = .map (some b)) (hx : ev n f xk = enc k) (hv : ev n f xv = dec u) (hT : ∀ w, (underlying T).run P w = .ok (.map K E) w) (hk : KeyI P K enc) [i : AtB L b (MapP enc dec F)] [j : SetB L b (MapP enc dec (fset F k (some u))) L']
    (h : ∀ w', StX S w0 w' L' → wpL P ops Q n rest f w') : wpL P ops Q n (⟨none, .mapUpdate T xm xk xv, ty, pos, af, none⟩ :: rest) f w := by
  obtain ⟨o', w', hr, hp, ho⟩ := run_updF (k := k) (v := u) hT hk (hS.is b)
  refine wpL_skip (w' := w') ?_ (h w' (hS.puts hp ho))
  simp [xop, execOp, hm, hx, hv, hr]
theorem sentryF (hS : StX S w0 w L) (hm : ev n f xm = .map (some b)) (hx : ev n f xk = enc k) (hT : ∀ w, (underlying T).run P w = .ok (.map K E) w) (hk : KeyI P K enc) (hz : ∀ w, (zeroValue E).run P w = .ok (dec z0) w) {Lf : (Obj → Prop) → List Item} [i : AtB L b (MapP enc dec F)] [j : SetA L b Lf]
    (h : ∀ v0 st w', StX S w0 w' (Lf (MapE enc dec F k st)) → wpL P ops Q n rest (upd f d (.tuple #[v0, .int .i64 (st : Nat)])) w') : wpL P ops Q n (⟨some d, .mapEntry T xm xk, ty, pos, af, none⟩ :: rest) f w := by
  obtain ⟨v0, st, o', w', hr, hp, ho⟩ := run_entryF (k := k) hT hk hz (hS.is b)
  haveI := j.inst (MapE enc dec F k st)
  refine sv (v := .tuple #[v0, .int .i64 (st : Nat)]) (w' := w') ?_ (h v0 st w' (hS.puts hp ho))
  simp [Y, xop, execOp, hm, hx, hr]
theorem sestF (hS : StX S w0 w L) (hm : ev n f xm = .map (some b)) (hs : ev n f xs = .int .i64 (st : Nat)) (hv : ev n f xv = dec u) [i : AtB L b (MapE enc dec F k st)] [j : SetB L b (MapP enc dec (fset F k (some u))) L']
    (h : ∀ w', StX S w0 w' L' → wpL P ops Q n rest f w') : wpL P ops Q n (⟨none, .entryStore T xm xs xv, ty, pos, af, none⟩ :: rest) f w := by
  obtain ⟨o', w', hr, hp, ho⟩ := run_estoreF (T := T) (v := u) (P := P) (hS.is b)
  refine wpL_skip (w' := w') ?_ (h w' (hS.puts hp ho))
  simp [xop, execOp, hm, hs, hv, hr]
theorem sdelF (hS : StX S w0 w L) (hm : ev n f xm = .map (some b)) (hx : ev n f xk = enc k) (hT : ∀ w, (underlying T).run P w = .ok (.map K E) w) (hk : KeyI P K enc) [i : AtB L b (MapP enc dec F)] [j : SetB L b (MapP enc dec (fdel F k)) L']
    (h : ∀ w', StX S w0 w' L' → wpL P ops Q n rest f w') : wpL P ops Q n (⟨none, .call ⟨.builtin .delete, #[xm, xk], #[T, K']⟩, ty, pos, af, none⟩ :: rest) f w := by
  obtain ⟨o', w', hr, hp, ho⟩ := run_delF (ty := ty) (k := k) hT hk (hS.is b)
  have hfin := h w' (hS.puts hp ho)
  have hr' : (Builtin.delete_ #[T, K'] ty #[.map (some b), enc k]).run P w = .ok (.tuple #[]) w' := by
    have e : Builtin.delete_ #[T, K'] ty #[.map (some b), enc k] = Builtin.delete_ #[T, K] ty #[.map (some b), enc k] := rfl
    rw [e]; exact hr
  have hrun : (xop (ev n f) (.call ⟨.builtin .delete, #[xm, xk], #[T, K']⟩) ty).run P w = .ok (.value (.tuple #[])) w' := by
    simp [xop, execOp, resolve, hm, hx, invoke, builtin, hr']
  refine wpL_run rfl ?_
  unfold Oper.wp
  rw [mk_eval, execOp_xop, hrun]
  exact hfin
theorem srangeF (hS : StX S w0 w L) (hm : ev n f xm = .map (some b)) (hT : ∀ w, (underlying T).run P w = .ok (.map K E) w) [i : AtB L b (MapS enc dec F m c)]
    (h : ∀ bi w', StX S w0 w' (obj bi (.mapIter (some b) c ([] : List Nat).toArray c) :: L) → wpL P ops Q n rest (upd f d (.pointer (some ⟨bi, 0, none⟩))) w') : wpL P ops Q n (⟨some d, .range T xm, ty, pos, af, none⟩ :: rest) f w := by
  obtain ⟨o, hb, hM⟩ := hS.is b
  have ho := hM.obj
  subst ho
  refine sv (v := .pointer (some ⟨w.heap.size, 0, none⟩)) (w' := w.alloc (.mapIter (some b) c #[] c)) ?_ (h w.heap.size _ (hS.call1 (St.new w _)))
  have h2 : (getObj b).run P w = .ok (.map (m.map (ent enc dec)).toArray c) w := by simp only [getObj, Sem.run, hb]
  simp [Y, xop, execOp, hm, Instr.range, hT, h2, Result.andThen]
def nxtO (enc : κ → Value) (dec : ν → Value) : Option (Tri κ ν) → Array Value
  | none => #[.bool false]
  | some x => #[.bool true, enc x.1, dec x.2.1]
theorem nxtO_ok (o : Option (Tri κ ν)) : (nxtO enc dec o)[0]? = some (.bool o.isSome) := by cases o <;> rfl
theorem snextF (hS : StX S w0 w L) (hx : ev n f xi = .pointer (some ⟨bi, 0, none⟩)) {Lf : (Obj → Prop) → List Item} [i : AtB L bi (Eq (.mapIter (some b) c seen.toArray c))] [i2 : AtB L b (MapS enc dec F m c)] [j : SetA L bi Lf]
    (h : ∀ (o : Option (Tri κ ν)) w', (∀ x, o = some x → x ∈ m ∧ x.2.2 ∉ seen) → (o = none → ∀ y ∈ m, y.2.2 ∈ seen) → StX S w0 w' (Lf (Eq (.mapIter (some b) c (seen ++ (o.map (·.2.2)).toList).toArray c))) → wpL P ops Q n rest (upd f d (.tuple (nxtO enc dec o))) w') :
    wpL P ops Q n (⟨some d, .next xi false, ty, pos, af, none⟩ :: rest) f w := by
  obtain ⟨o, hb, hM⟩ := hS.is b
  have ho := hM.obj
  subst ho
  have hi := hS.at bi (o := .mapIter (some b) c seen.toArray c)
  have h1 : ∀ w1, w1.heap = w.heap → (getObj bi).run P w1 = .ok (.mapIter (some b) c seen.toArray c) w1 := fun w1 e => by simp only [getObj, Sem.run, e, hi]
  have h2 : ∀ w1, w1.heap = w.heap → (getObj b).run P w1 = .ok (.map (m.map (ent enc dec)).toArray c) w1 := fun w1 e => by simp only [getObj, Sem.run, e, hb]
  have hcl := hM.clock
  have hlast : (!seen.toArray.isEmpty && !(m.map (ent enc dec)).toArray.isEmpty && (m.map (ent enc dec)).toArray.all (fun e => decide (e.born ≥ c))) = false := by
    cases m with
    | nil => simp
    | cons x m =>
      have := hcl x (List.mem_cons_self ..)
      have hn : ¬ c ≤ x.2.2 := by omega
      simp [ent, hn]
  have hleft : (m.map (ent enc dec)).toArray.filter (fun e => !seen.toArray.contains e.born) = ((m.filter fun x => !seen.contains x.2.2).map (ent enc dec)).toArray := by
    rw [List.filter_toArray, List.filter_map]
    congr 2
    apply List.filter_congr
    intro x _
    show (!(seen.toArray.contains x.2.2)) = !seen.contains x.2.2
    rw [List.contains_toArray]
  have hG : ∀ x ∈ m.filter (fun x => !seen.contains x.2.2), x ∈ m ∧ x.2.2 ∉ seen := fun x hx => by
    obtain ⟨k1, k2⟩ := List.mem_filter.1 hx
    exact ⟨k1, by simpa using k2⟩
  have hold : ((m.filter fun x => !seen.contains x.2.2).map (ent enc dec)).toArray.filter (fun e => decide (e.born < c)) = ((m.filter fun x => !seen.contains x.2.2).map (ent enc dec)).toArray := by
    rw [List.filter_toArray]
    congr 1
    rw [List.filter_eq_self]
    intro e he
    obtain ⟨x, hx, rfl⟩ := List.mem_map.1 he
    exact decide_eq_true (hcl x (hG x hx).1)
  have hnew : ((m.filter fun x => !seen.contains x.2.2).map (ent enc dec)).toArray.filter (fun e => decide (e.born ≥ c)) = #[] := by
    rw [List.filter_toArray]
    congr 1
    rw [List.filter_eq_nil_iff]
    intro e he
    obtain ⟨x, hx, rfl⟩ := List.mem_map.1 he
    have := hcl x (hG x hx).1
    simp [ent]; omega
  generalize hGG : m.filter (fun x => !seen.contains x.2.2) = G at hG hleft hold hnew
  cases hc : G with
  | nil =>
    subst hc
    refine sv (v := .tuple (nxtO enc dec none)) (w' := w) ?_ (h none w (fun _ e => (nomatch e)) (fun _ y hy => ?_) ?_)
    · simp only [Y, xop, execOp, hx, Instr.next, Sem.run_bind, h1 w rfl, h2 w rfl, Result.andThen_ok, hlast, hleft, hold, hnew]
      simp [choose, Sem.run, Question.forced, nxtO]
    · have : y ∉ m.filter (fun x => !seen.contains x.2.2) := by rw [hGG]; exact List.not_mem_nil
      simp only [List.mem_filter, not_and] at this
      simpa using this hy
    · haveI := j.inst (Eq (.mapIter (some b) c (seen ++ []).toArray c))
      exact hS.re (b := bi) (p := Eq (.mapIter (some b) c (seen ++ []).toArray c)) ⟨_, hi, by rw [List.append_nil]⟩
  | cons g G' =>
    have hne : G ≠ [] := by rw [hc]; simp
    have hcand : (if (G.map (ent enc dec)).toArray.isEmpty = true then #[none] else #[]) ++ ((G.map (ent enc dec)).toArray ++ #[]).map some = ((G.map (ent enc dec)).map some).toArray := by
      rw [hc]; simp
    have hpick : ∃ x ∈ G, ∃ w1, w1.heap = w.heap ∧ w1.os = w.os ∧ w1.tape = w.tape ∧ w1.output = w.output ∧ ∃ q, (choose (.mapNext ((G.map (ent enc dec)).map some).toArray.size)).run P w = .ok q w1 ∧ ((G.map (ent enc dec)).map some).toArray[q]? = some (some (ent enc dec x)) := by
      have hl : ((G.map (ent enc dec)).map some).toArray.size = G.length := by simp
      have hpos : 0 < G.length := List.length_pos_iff.2 hne
      have hat : ∀ q, q < G.length → ∃ x ∈ G, ((G.map (ent enc dec)).map some).toArray[q]? = some (some (ent enc dec x)) := fun q hq => ⟨G[q], List.getElem_mem hq, by simp [hq]⟩
      by_cases hf : G.length ≤ 1
      · obtain ⟨x, hx1, hx2⟩ := hat 0 hpos
        refine ⟨x, hx1, w, rfl, rfl, rfl, rfl, 0, ?_, hx2⟩
        rw [hl, Go.run_choose_drew, if_pos (by simp [Question.forced, hf])]
      · obtain ⟨x, hx1, hx2⟩ := hat (w.tape w.drawn (.mapNext G.length) % G.length) (Nat.mod_lt _ hpos)
        refine ⟨x, hx1, w.drew, rfl, rfl, rfl, rfl, _, ?_, hx2⟩
        rw [hl, Go.run_choose_drew, if_neg (by simp [Question.forced, hf])]; rfl
    obtain ⟨x, hxG, w1, e1, e2, e3, e4, q, hq1, hq2⟩ := hpick
    have hset : (setObj bi (.mapIter (some b) c (seen ++ [x.2.2]).toArray c)).run P w1 = .ok () { w1 with heap := w1.heap.setIfInBounds bi (.mapIter (some b) c (seen ++ [x.2.2]).toArray c) } := by
      simp [setObj, Sem.run, e1, hi]
    have hlt := lt_of_heap hi
    have hput : Put bi (.mapIter (some b) c (seen ++ [x.2.2]).toArray c) w { w1 with heap := w1.heap.setIfInBounds bi (.mapIter (some b) c (seen ++ [x.2.2]).toArray c) } := by
      refine ⟨e2, e3, e4, by simp [e1], by simp [e1, hlt], fun k _ hk => ?_⟩
      show (w1.heap.setIfInBounds bi _)[k]? = _
      rw [Array.getElem?_setIfInBounds, if_neg (fun e => hk e.symm), e1]
    haveI := j.inst (Eq (.mapIter (some b) c (seen ++ ((some x).map (·.2.2)).toList).toArray c))
    refine sv (v := .tuple (nxtO enc dec (some x))) ?_ (h (some x) _ (fun y e => by cases e; exact hG x hxG) (fun e => (nomatch e)) (hS.puts (p := Eq (.mapIter (some b) c (seen ++ ((some x).map (·.2.2)).toList).toArray c)) hput (by simp)))
    simp only [Y, xop, execOp, hx, Instr.next, Sem.run_bind, h1 w rfl, h2 w rfl, Result.andThen_ok, hlast, hleft, hold, hnew, hcand, hq1, hq2, Bool.false_eq_true, if_false]
    have e9 : seen.toArray.push x.2.2 = (seen ++ [x.2.2]).toArray := by simp
    rw [show seen.toArray.push (ent enc dec x).born = (seen ++ [x.2.2]).toArray from e9]
    simp only [Sem.run_bind, hset, Result.andThen_ok]
    rfl
end
end Bx

/- part As -/
namespace Go.Proofs.YtmoilbakmlekbaaGreatDoor
open Go Bx Go.RowKit Go.Extern.Stop Go.Stop Go.Extern
/-- What the package-level variable errors.errorType holds. -/
def Glb (w : World) : Prop := w.cell? ⟨0, 0, none⟩ = some (.iface 217 (.agg #[.pointer (some ⟨1, 120, none⟩)]))
theorem Glb.ext {w w' : World} (h : Glb w) (e : Ext w w') : Glb w' := e.cell h
theorem c_AsNil {t : Value} {w0 : World} : CV Tryz.prog 56 #[.nilIface, t] w0 (.bool false) := by
  refine Calls.mono (show Calls Tryz.prog 56 #[.nilIface, t] w0 fun e w' => e = .returned (.bool false) ∧ w' = w0 by
    go_enter Tryz.func56, Tryz.ntmps56
    go_wp2
    go_ret
    exact ⟨rfl, rfl⟩) ?_
  rintro e w' ⟨rfl, rfl⟩
  exact ⟨_, rfl, rfl, Ext.refl _⟩
theorem rlm (z : Sem Value) (f : TypeId → Addr → Nat → Nat → Sem Value) (v : Value) :
    ReflectliteValue.method z f #[v] = (do match ← ReflectliteValue.parts v with | none => z | some (t, a, fl) => f t a fl (fl % 32)) := rfl
theorem rls (v x : Value) : ReflectliteValue.set #[v, x] = (do
    let (some (dst, a, fl), some (src, b, _)) := (← ReflectliteValue.parts v, ← ReflectliteValue.parts x)
      | unsupported (.noEntry "extern/(internal/reflectlite.Value).Set.zeroValue")
    if fl / ReflectliteValue.flagAddr % 2 == 0 then unsupported (.noEntry "extern/(internal/reflectlite.Value).Set.unaddressable")
    let val ← loadVar src b
    if ← Rtype.directlyAssignable dst src then storeVar dst a val
    else if ← Rtype.implements dst src then
      if (← Rtype.kind src) == 20 then
        match val with
        | .nilIface => unsupported (.noEntry "extern/reflectlite: a nil value of one interface type handed on as a value of another")
        | _ => storeVar dst a val
      else storeVar dst a (.iface src val)
    else panicString ("reflectlite.Set: value of type " ++ (← Rtype.spelt src) ++ " is not assignable to type " ++ (← Rtype.spelt dst))
    pure (.tuple #[])) := rfl
theorem mthKind (h : Value) (w : World) : (Go.method 409 217 (.agg #[h]) "Kind").run Tryz.prog w = .ok (199, h) w := by kernel_rfl
theorem mthElem (h : Value) (w : World) : (Go.method 409 217 (.agg #[h]) "Elem").run Tryz.prog w = .ok (210, .agg #[h]) w := by kernel_rfl
theorem mthImplements (h : Value) (w : World) : (Go.method 409 217 (.agg #[h]) "Implements").run Tryz.prog w = .ok (211, .agg #[h]) w := by kernel_rfl
theorem mthAssignableTo (h : Value) (w : World) : (Go.method 409 217 (.agg #[h]) "AssignableTo").run Tryz.prog w = .ok (208, .agg #[h]) w := by kernel_rfl
theorem valueOfPMistake (t : Addr) (w : World) : (ReflectliteValue.unpack (.iface 125 (.pointer (some t)))).run Tryz.prog w = .ok (.agg #[.pointer (some ⟨1, 125, none⟩), .pointer (some ⟨w.heap.size, 0, none⟩), .int .u64 150]) (w.alloc (.cells #[.pointer (some t)] 125)) := by kernel_rfl
theorem typePMistake (a : Addr) (w : World) : (ReflectliteValue.methodAny (ReflectliteValue.valueError "reflectlite.Value.Type" 0) (fun t _ _ _ => ReflectliteType.toType t) #[.agg #[.pointer (some ⟨1, 125, none⟩), .pointer (some a), .int .u64 150]]).run Tryz.prog w = .ok (.iface 217 (.agg #[.pointer (some ⟨1, 125, none⟩)])) w := by kernel_rfl
theorem kindPMistake (w : World) : ((ReflectliteType.abiMethod fun t => (fun a : Nat => Value.int IntKind.u8 (a : Int)) <$> Rtype.kind t) #[.pointer (some ⟨1, 125, none⟩)]).run Tryz.prog w = .ok (.int .u8 22) w := by kernel_rfl
theorem kindEMistake (w : World) : ((ReflectliteType.abiMethod fun t => (fun a : Nat => Value.int IntKind.u8 (a : Int)) <$> Rtype.kind t) #[.pointer (some ⟨1, 117, none⟩)]).run Tryz.prog w = .ok (.int .u8 22) w := by kernel_rfl
theorem partsPMistake (a : Addr) (w : World) : (ReflectliteValue.parts (.agg #[.pointer (some ⟨1, 125, none⟩), .pointer (some a), .int .u64 150])).run Tryz.prog w = .ok (some (125, a, 150)) w := by kernel_rfl
theorem isNilPMistake (a p : Addr) (W : World) (ha : W.cell? a = some (.pointer (some p))) :
    (ReflectliteValue.method (ReflectliteValue.valueError "reflectlite.Value.IsNil" 0) ReflectliteValue.isNil #[.agg #[.pointer (some ⟨1, 125, none⟩), .pointer (some a), .int .u64 150]]).run Tryz.prog W = .ok (.bool false) W := by
  rw [rlm]
  simp only [Sem.run_bind, partsPMistake, Result.andThen]
  simp [ReflectliteValue.isNil, loadVar, isAgg, underlying, Tryz.underlying125, ha, Result.andThen]
theorem elemPMistake (w : World) : (ReflectliteType.method ReflectliteType.elem #[.agg #[.pointer (some ⟨1, 125, none⟩)]]).run Tryz.prog w = .ok (.iface 217 (.agg #[.pointer (some ⟨1, 117, none⟩)])) w := by kernel_rfl
theorem implementsEMistake (w : World) : (ReflectliteType.relation "Implements" ReflectliteType.implements_ #[.agg #[.pointer (some ⟨1, 117, none⟩)], (.iface 217 (.agg #[.pointer (some ⟨1, 120, none⟩)]))]).run Tryz.prog w = .ok (.bool true) w := by kernel_rfl
theorem typeOfEMistake (v : Value) (w : World) : (ReflectliteType.typeOf #[.iface 117 v]).run Tryz.prog w = .ok (.iface 217 (.agg #[.pointer (some ⟨1, 117, none⟩)])) w := by kernel_rfl
theorem assignableEMistake (w : World) : (ReflectliteType.relation "AssignableTo" ReflectliteType.assignableTo #[.agg #[.pointer (some ⟨1, 117, none⟩)], (.iface 217 (.agg #[.pointer (some ⟨1, 117, none⟩)]))]).run Tryz.prog w = .ok (.bool true) w := by kernel_rfl
theorem valueOfEMistake (e : Addr) (w : World) : (ReflectliteValue.unpack (.iface 117 (.pointer (some e)))).run Tryz.prog w = .ok (.agg #[.pointer (some ⟨1, 117, none⟩), .pointer (some ⟨w.heap.size, 0, none⟩), .int .u64 150]) (w.alloc (.cells #[.pointer (some e)] 117)) := by kernel_rfl
theorem elemOfPMistake (w : World) : (Rtype.elem? 125).run Tryz.prog w = .ok (some 117) w := by kernel_rfl
theorem mkEMistake (p : Addr) (w : World) : (ReflectliteValue.mk 117 p ReflectliteValue.flagAddr).run Tryz.prog w = .ok (.agg #[.pointer (some ⟨1, 117, none⟩), .pointer (some p), .int .u64 406]) w := by kernel_rfl
theorem elemVPMistake (a p : Addr) (W : World) (ha : W.cell? a = some (.pointer (some p))) :
    (ReflectliteValue.method (ReflectliteValue.valueError "reflectlite.Value.Elem" 0) ReflectliteValue.elem #[.agg #[.pointer (some ⟨1, 125, none⟩), .pointer (some a), .int .u64 150]]).run Tryz.prog W = .ok (.agg #[.pointer (some ⟨1, 117, none⟩), .pointer (some p), .int .u64 406]) W := by
  rw [rlm]
  simp only [Sem.run_bind, partsPMistake, Result.andThen]
  simp [ReflectliteValue.elem, loadVar, isAgg, underlying, Tryz.underlying125, ha, Result.andThen, elemOfPMistake, mkEMistake]
theorem partsEaMistake (a : Addr) (w : World) : (ReflectliteValue.parts (.agg #[.pointer (some ⟨1, 117, none⟩), .pointer (some a), .int .u64 406])).run Tryz.prog w = .ok (some (117, a, 406)) w := by kernel_rfl
theorem partsEMistake (a : Addr) (w : World) : (ReflectliteValue.parts (.agg #[.pointer (some ⟨1, 117, none⟩), .pointer (some a), .int .u64 150])).run Tryz.prog w = .ok (some (117, a, 150)) w := by kernel_rfl
theorem directEMistake (w : World) : (Rtype.directlyAssignable 117 117).run Tryz.prog w = .ok true w := by kernel_rfl
theorem setEMistake (ta b e : Addr) (old : Value) (W : World) (hb : W.cell? b = some (.pointer (some e))) (ht : W.cell? ta = some old) (hf : W.frozen? ta = false) :
    (ReflectliteValue.set #[.agg #[.pointer (some ⟨1, 117, none⟩), .pointer (some ta), .int .u64 406], .agg #[.pointer (some ⟨1, 117, none⟩), .pointer (some b), .int .u64 150]]).run Tryz.prog W = .ok (.tuple #[]) (W.setCell ta (.pointer (some e))) := by
  rw [rls]
  simp only [Sem.run_bind, partsEaMistake, partsEMistake, Result.andThen]
  simp [ReflectliteValue.flagAddr, loadVar, isAgg, underlying, Tryz.underlying117, hb, Result.andThen, directEMistake, storeVar, Value.cells, storeCells, Addr.add]
  rw [run_store Tryz.prog W ta _ _ (by rfl)]
  simp [ht, hf]
set_option maxHeartbeats 4000000 in
theorem asHitMistake (e t : Addr) (old : Value) (w : World) (hg : Glb w) (ht0 : w.cell? t = some old) (hf0 : w.frozen? t = false) :
    Calls Tryz.prog 56 #[.iface 117 (.pointer (some e)), .iface 125 (.pointer (some t))] w fun ev w' => ev = .returned (.bool true) ∧ w' = ((((w.alloc (.cells #[.pointer (some t)] 125)).alloc (.cells #[.pointer (some ⟨1, 125, none⟩), .pointer (some ⟨w.heap.size, 0, none⟩), .int .u64 150] 185)).alloc (.cells #[.pointer (some ⟨1, 125, none⟩), .pointer (some ⟨w.heap.size, 0, none⟩), .int .u64 150] 185)).alloc (.cells #[.pointer (some e)] 117)).setCell t (.pointer (some e)) := by
  have x107 := @run_callFunc_extern Tryz.prog 107 _ (fun args => ReflectliteValue.unpack (args.getD 0 (.tuple #[]))) Tryz.func107 (by kernel_rfl) (by kernel_rfl) (by kernel_rfl) (by kernel_rfl)
  have x108 := @run_callFunc_extern Tryz.prog 108 _ (ReflectliteValue.methodAny (ReflectliteValue.valueError "reflectlite.Value.Type" 0) (fun t _ _ _ => ReflectliteType.toType t)) Tryz.func108 (by kernel_rfl) (by kernel_rfl) (by kernel_rfl) (by kernel_rfl)
  have x109 := @run_callFunc_extern Tryz.prog 109 _ (ReflectliteValue.method (ReflectliteValue.valueError "reflectlite.Value.IsNil" 0) ReflectliteValue.isNil) Tryz.func109 (by kernel_rfl) (by kernel_rfl) (by kernel_rfl) (by kernel_rfl)
  have x199 := @run_callFunc_extern Tryz.prog 199 _ (ReflectliteType.abiMethod fun t => do pure (.int .u8 (← Rtype.kind t))) Tryz.func199 (by kernel_rfl) (by kernel_rfl) (by kernel_rfl) (by kernel_rfl)
  have x210 := @run_callFunc_extern Tryz.prog 210 _ (ReflectliteType.method ReflectliteType.elem) Tryz.func210 (by kernel_rfl) (by kernel_rfl) (by kernel_rfl) (by kernel_rfl)
  have x211 := @run_callFunc_extern Tryz.prog 211 _ (ReflectliteType.relation "Implements" ReflectliteType.implements_) Tryz.func211 (by kernel_rfl) (by kernel_rfl) (by kernel_rfl) (by kernel_rfl)
  have x131 := @run_callFunc_extern Tryz.prog 131 _ (ReflectliteType.typeOf) Tryz.func131 (by kernel_rfl) (by kernel_rfl) (by kernel_rfl) (by kernel_rfl)
  have x208 := @run_callFunc_extern Tryz.prog 208 _ (ReflectliteType.relation "AssignableTo" ReflectliteType.assignableTo) Tryz.func208 (by kernel_rfl) (by kernel_rfl) (by kernel_rfl) (by kernel_rfl)
  have x132 := @run_callFunc_extern Tryz.prog 132 _ (ReflectliteValue.method (ReflectliteValue.valueError "reflectlite.Value.Elem" 0) ReflectliteValue.elem) Tryz.func132 (by kernel_rfl) (by kernel_rfl) (by kernel_rfl) (by kernel_rfl)
  have x133 := @run_callFunc_extern Tryz.prog 133 _ (ReflectliteValue.set) Tryz.func133 (by kernel_rfl) (by kernel_rfl) (by kernel_rfl) (by kernel_rfl)
  have tO := typeOfEMistake
  have mA := mthAssignableTo
  have aE := assignableEMistake
  have vE := valueOfEMistake
  have fP := valueOfPMistake
  have tP := typePMistake
  have mK := mthKind
  have mE := mthElem
  have mI := mthImplements
  have kP := kindPMistake
  have kE := kindEMistake
  have eP := elemPMistake
  have iE := implementsEMistake
  have n8 := isNilPMistake ⟨w.heap.size, 0, none⟩ t ((w.alloc (.cells #[.pointer (some t)] 125)).alloc (.cells #[.pointer (some ⟨1, 125, none⟩), .pointer (some ⟨w.heap.size, 0, none⟩), .int .u64 150] 185)) (by simp)
  have hlt : 0 < w.heap.size := by
    rcases Nat.eq_zero_or_pos w.heap.size with h0 | h
    · simp [Glb, World.cell?, h0] at hg
    · exact h
  have hg2 : ((w.alloc (.cells #[.pointer (some t)] 125)).alloc (.cells #[.pointer (some ⟨1, 125, none⟩), .pointer (some ⟨w.heap.size, 0, none⟩), .int .u64 150] 185)).cell? ⟨0, 0, none⟩ = some (.iface 217 (.agg #[.pointer (some ⟨1, 120, none⟩)])) := by
    rw [World.cell?_alloc_lt _ _ ⟨0, 0, none⟩ (by simp), World.cell?_alloc_lt _ _ ⟨0, 0, none⟩ hlt]; exact hg
  have htl : t.block < w.heap.size := by
    rcases Nat.lt_or_ge t.block w.heap.size with h | h
    · exact h
    · simp [World.cell?, Array.getElem?_eq_none h] at ht0
  have el := elemVPMistake ⟨w.heap.size, 0, none⟩ t (((w.alloc (.cells #[.pointer (some t)] 125)).alloc (.cells #[.pointer (some ⟨1, 125, none⟩), .pointer (some ⟨w.heap.size, 0, none⟩), .int .u64 150] 185)).alloc (.cells #[.pointer (some ⟨1, 125, none⟩), .pointer (some ⟨w.heap.size, 0, none⟩), .int .u64 150] 185)) (by rw [World.cell?_alloc_lt _ _ ⟨w.heap.size, 0, none⟩ (by simp; omega)]; simp)
  have st := setEMistake t ⟨w.heap.size + 1 + 1 + 1, 0, none⟩ e old ((((w.alloc (.cells #[.pointer (some t)] 125)).alloc (.cells #[.pointer (some ⟨1, 125, none⟩), .pointer (some ⟨w.heap.size, 0, none⟩), .int .u64 150] 185)).alloc (.cells #[.pointer (some ⟨1, 125, none⟩), .pointer (some ⟨w.heap.size, 0, none⟩), .int .u64 150] 185)).alloc (.cells #[.pointer (some e)] 117))
    (by rw [World.cell?_alloc_at _ _ _ _ (by simp)]; rfl)
    (by rw [World.cell?_alloc_lt _ _ t (by simp; omega), World.cell?_alloc_lt _ _ t (by simp; omega), World.cell?_alloc_lt _ _ t (by simp; omega), World.cell?_alloc_lt _ _ t htl]; exact ht0)
    (by rw [World.frozen?_alloc_old _ _ t (by simp; omega), World.frozen?_alloc_old _ _ t (by simp; omega), World.frozen?_alloc_old _ _ t (by simp; omega), World.frozen?_alloc_old _ _ t (Nat.ne_of_lt htl)]; exact hf0)
  go_enter Tryz.func56, Tryz.ntmps56
  go_wp2
  refine wp_loop_rounds 1 ?_
  rw [rounds_succ]
  go_wp2
  go_ret
  exact ⟨rfl, rfl⟩
theorem valueOfPFailure (t : Addr) (w : World) : (ReflectliteValue.unpack (.iface 213 (.pointer (some t)))).run Tryz.prog w = .ok (.agg #[.pointer (some ⟨1, 213, none⟩), .pointer (some ⟨w.heap.size, 0, none⟩), .int .u64 150]) (w.alloc (.cells #[.pointer (some t)] 213)) := by kernel_rfl
theorem typePFailure (a : Addr) (w : World) : (ReflectliteValue.methodAny (ReflectliteValue.valueError "reflectlite.Value.Type" 0) (fun t _ _ _ => ReflectliteType.toType t) #[.agg #[.pointer (some ⟨1, 213, none⟩), .pointer (some a), .int .u64 150]]).run Tryz.prog w = .ok (.iface 217 (.agg #[.pointer (some ⟨1, 213, none⟩)])) w := by kernel_rfl
theorem kindPFailure (w : World) : ((ReflectliteType.abiMethod fun t => (fun a : Nat => Value.int IntKind.u8 (a : Int)) <$> Rtype.kind t) #[.pointer (some ⟨1, 213, none⟩)]).run Tryz.prog w = .ok (.int .u8 22) w := by kernel_rfl
theorem kindEFailure (w : World) : ((ReflectliteType.abiMethod fun t => (fun a : Nat => Value.int IntKind.u8 (a : Int)) <$> Rtype.kind t) #[.pointer (some ⟨1, 212, none⟩)]).run Tryz.prog w = .ok (.int .u8 22) w := by kernel_rfl
theorem partsPFailure (a : Addr) (w : World) : (ReflectliteValue.parts (.agg #[.pointer (some ⟨1, 213, none⟩), .pointer (some a), .int .u64 150])).run Tryz.prog w = .ok (some (213, a, 150)) w := by kernel_rfl
theorem isNilPFailure (a p : Addr) (W : World) (ha : W.cell? a = some (.pointer (some p))) :
    (ReflectliteValue.method (ReflectliteValue.valueError "reflectlite.Value.IsNil" 0) ReflectliteValue.isNil #[.agg #[.pointer (some ⟨1, 213, none⟩), .pointer (some a), .int .u64 150]]).run Tryz.prog W = .ok (.bool false) W := by
  rw [rlm]
  simp only [Sem.run_bind, partsPFailure, Result.andThen]
  simp [ReflectliteValue.isNil, loadVar, isAgg, underlying, Tryz.underlying213, ha, Result.andThen]
theorem elemPFailure (w : World) : (ReflectliteType.method ReflectliteType.elem #[.agg #[.pointer (some ⟨1, 213, none⟩)]]).run Tryz.prog w = .ok (.iface 217 (.agg #[.pointer (some ⟨1, 212, none⟩)])) w := by kernel_rfl
theorem implementsEFailure (w : World) : (ReflectliteType.relation "Implements" ReflectliteType.implements_ #[.agg #[.pointer (some ⟨1, 212, none⟩)], (.iface 217 (.agg #[.pointer (some ⟨1, 120, none⟩)]))]).run Tryz.prog w = .ok (.bool true) w := by kernel_rfl
theorem typeOfEFailure (v : Value) (w : World) : (ReflectliteType.typeOf #[.iface 212 v]).run Tryz.prog w = .ok (.iface 217 (.agg #[.pointer (some ⟨1, 212, none⟩)])) w := by kernel_rfl
theorem assignableEFailure (w : World) : (ReflectliteType.relation "AssignableTo" ReflectliteType.assignableTo #[.agg #[.pointer (some ⟨1, 212, none⟩)], (.iface 217 (.agg #[.pointer (some ⟨1, 212, none⟩)]))]).run Tryz.prog w = .ok (.bool true) w := by kernel_rfl
theorem valueOfEFailure (e : Addr) (w : World) : (ReflectliteValue.unpack (.iface 212 (.pointer (some e)))).run Tryz.prog w = .ok (.agg #[.pointer (some ⟨1, 212, none⟩), .pointer (some ⟨w.heap.size, 0, none⟩), .int .u64 150]) (w.alloc (.cells #[.pointer (some e)] 212)) := by kernel_rfl
theorem elemOfPFailure (w : World) : (Rtype.elem? 213).run Tryz.prog w = .ok (some 212) w := by kernel_rfl
theorem mkEFailure (p : Addr) (w : World) : (ReflectliteValue.mk 212 p ReflectliteValue.flagAddr).run Tryz.prog w = .ok (.agg #[.pointer (some ⟨1, 212, none⟩), .pointer (some p), .int .u64 406]) w := by kernel_rfl
theorem elemVPFailure (a p : Addr) (W : World) (ha : W.cell? a = some (.pointer (some p))) :
    (ReflectliteValue.method (ReflectliteValue.valueError "reflectlite.Value.Elem" 0) ReflectliteValue.elem #[.agg #[.pointer (some ⟨1, 213, none⟩), .pointer (some a), .int .u64 150]]).run Tryz.prog W = .ok (.agg #[.pointer (some ⟨1, 212, none⟩), .pointer (some p), .int .u64 406]) W := by
  rw [rlm]
  simp only [Sem.run_bind, partsPFailure, Result.andThen]
  simp [ReflectliteValue.elem, loadVar, isAgg, underlying, Tryz.underlying213, ha, Result.andThen, elemOfPFailure, mkEFailure]
theorem partsEaFailure (a : Addr) (w : World) : (ReflectliteValue.parts (.agg #[.pointer (some ⟨1, 212, none⟩), .pointer (some a), .int .u64 406])).run Tryz.prog w = .ok (some (212, a, 406)) w := by kernel_rfl
theorem partsEFailure (a : Addr) (w : World) : (ReflectliteValue.parts (.agg #[.pointer (some ⟨1, 212, none⟩), .pointer (some a), .int .u64 150])).run Tryz.prog w = .ok (some (212, a, 150)) w := by kernel_rfl
theorem directEFailure (w : World) : (Rtype.directlyAssignable 212 212).run Tryz.prog w = .ok true w := by kernel_rfl
theorem setEFailure (ta b e : Addr) (old : Value) (W : World) (hb : W.cell? b = some (.pointer (some e))) (ht : W.cell? ta = some old) (hf : W.frozen? ta = false) :
    (ReflectliteValue.set #[.agg #[.pointer (some ⟨1, 212, none⟩), .pointer (some ta), .int .u64 406], .agg #[.pointer (some ⟨1, 212, none⟩), .pointer (some b), .int .u64 150]]).run Tryz.prog W = .ok (.tuple #[]) (W.setCell ta (.pointer (some e))) := by
  rw [rls]
  simp only [Sem.run_bind, partsEaFailure, partsEFailure, Result.andThen]
  simp [ReflectliteValue.flagAddr, loadVar, isAgg, underlying, Tryz.underlying212, hb, Result.andThen, directEFailure, storeVar, Value.cells, storeCells, Addr.add]
  rw [run_store Tryz.prog W ta _ _ (by rfl)]
  simp [ht, hf]
set_option maxHeartbeats 4000000 in
theorem asHitFailure (e t : Addr) (old : Value) (w : World) (hg : Glb w) (ht0 : w.cell? t = some old) (hf0 : w.frozen? t = false) :
    Calls Tryz.prog 56 #[.iface 212 (.pointer (some e)), .iface 213 (.pointer (some t))] w fun ev w' => ev = .returned (.bool true) ∧ w' = ((((w.alloc (.cells #[.pointer (some t)] 213)).alloc (.cells #[.pointer (some ⟨1, 213, none⟩), .pointer (some ⟨w.heap.size, 0, none⟩), .int .u64 150] 185)).alloc (.cells #[.pointer (some ⟨1, 213, none⟩), .pointer (some ⟨w.heap.size, 0, none⟩), .int .u64 150] 185)).alloc (.cells #[.pointer (some e)] 212)).setCell t (.pointer (some e)) := by
  have x107 := @run_callFunc_extern Tryz.prog 107 _ (fun args => ReflectliteValue.unpack (args.getD 0 (.tuple #[]))) Tryz.func107 (by kernel_rfl) (by kernel_rfl) (by kernel_rfl) (by kernel_rfl)
  have x108 := @run_callFunc_extern Tryz.prog 108 _ (ReflectliteValue.methodAny (ReflectliteValue.valueError "reflectlite.Value.Type" 0) (fun t _ _ _ => ReflectliteType.toType t)) Tryz.func108 (by kernel_rfl) (by kernel_rfl) (by kernel_rfl) (by kernel_rfl)
  have x109 := @run_callFunc_extern Tryz.prog 109 _ (ReflectliteValue.method (ReflectliteValue.valueError "reflectlite.Value.IsNil" 0) ReflectliteValue.isNil) Tryz.func109 (by kernel_rfl) (by kernel_rfl) (by kernel_rfl) (by kernel_rfl)
  have x199 := @run_callFunc_extern Tryz.prog 199 _ (ReflectliteType.abiMethod fun t => do pure (.int .u8 (← Rtype.kind t))) Tryz.func199 (by kernel_rfl) (by kernel_rfl) (by kernel_rfl) (by kernel_rfl)
  have x210 := @run_callFunc_extern Tryz.prog 210 _ (ReflectliteType.method ReflectliteType.elem) Tryz.func210 (by kernel_rfl) (by kernel_rfl) (by kernel_rfl) (by kernel_rfl)
  have x211 := @run_callFunc_extern Tryz.prog 211 _ (ReflectliteType.relation "Implements" ReflectliteType.implements_) Tryz.func211 (by kernel_rfl) (by kernel_rfl) (by kernel_rfl) (by kernel_rfl)
  have x131 := @run_callFunc_extern Tryz.prog 131 _ (ReflectliteType.typeOf) Tryz.func131 (by kernel_rfl) (by kernel_rfl) (by kernel_rfl) (by kernel_rfl)
  have x208 := @run_callFunc_extern Tryz.prog 208 _ (ReflectliteType.relation "AssignableTo" ReflectliteType.assignableTo) Tryz.func208 (by kernel_rfl) (by kernel_rfl) (by kernel_rfl) (by kernel_rfl)
  have x132 := @run_callFunc_extern Tryz.prog 132 _ (ReflectliteValue.method (ReflectliteValue.valueError "reflectlite.Value.Elem" 0) ReflectliteValue.elem) Tryz.func132 (by kernel_rfl) (by kernel_rfl) (by kernel_rfl) (by kernel_rfl)
  have x133 := @run_callFunc_extern Tryz.prog 133 _ (ReflectliteValue.set) Tryz.func133 (by kernel_rfl) (by kernel_rfl) (by kernel_rfl) (by kernel_rfl)
  have tO := typeOfEFailure
  have mA := mthAssignableTo
  have aE := assignableEFailure
  have vE := valueOfEFailure
  have fP := valueOfPFailure
  have tP := typePFailure
  have mK := mthKind
  have mE := mthElem
  have mI := mthImplements
  have kP := kindPFailure
  have kE := kindEFailure
  have eP := elemPFailure
  have iE := implementsEFailure
  have n8 := isNilPFailure ⟨w.heap.size, 0, none⟩ t ((w.alloc (.cells #[.pointer (some t)] 213)).alloc (.cells #[.pointer (some ⟨1, 213, none⟩), .pointer (some ⟨w.heap.size, 0, none⟩), .int .u64 150] 185)) (by simp)
  have hlt : 0 < w.heap.size := by
    rcases Nat.eq_zero_or_pos w.heap.size with h0 | h
    · simp [Glb, World.cell?, h0] at hg
    · exact h
  have hg2 : ((w.alloc (.cells #[.pointer (some t)] 213)).alloc (.cells #[.pointer (some ⟨1, 213, none⟩), .pointer (some ⟨w.heap.size, 0, none⟩), .int .u64 150] 185)).cell? ⟨0, 0, none⟩ = some (.iface 217 (.agg #[.pointer (some ⟨1, 120, none⟩)])) := by
    rw [World.cell?_alloc_lt _ _ ⟨0, 0, none⟩ (by simp), World.cell?_alloc_lt _ _ ⟨0, 0, none⟩ hlt]; exact hg
  have htl : t.block < w.heap.size := by
    rcases Nat.lt_or_ge t.block w.heap.size with h | h
    · exact h
    · simp [World.cell?, Array.getElem?_eq_none h] at ht0
  have el := elemVPFailure ⟨w.heap.size, 0, none⟩ t (((w.alloc (.cells #[.pointer (some t)] 213)).alloc (.cells #[.pointer (some ⟨1, 213, none⟩), .pointer (some ⟨w.heap.size, 0, none⟩), .int .u64 150] 185)).alloc (.cells #[.pointer (some ⟨1, 213, none⟩), .pointer (some ⟨w.heap.size, 0, none⟩), .int .u64 150] 185)) (by rw [World.cell?_alloc_lt _ _ ⟨w.heap.size, 0, none⟩ (by simp; omega)]; simp)
  have st := setEFailure t ⟨w.heap.size + 1 + 1 + 1, 0, none⟩ e old ((((w.alloc (.cells #[.pointer (some t)] 213)).alloc (.cells #[.pointer (some ⟨1, 213, none⟩), .pointer (some ⟨w.heap.size, 0, none⟩), .int .u64 150] 185)).alloc (.cells #[.pointer (some ⟨1, 213, none⟩), .pointer (some ⟨w.heap.size, 0, none⟩), .int .u64 150] 185)).alloc (.cells #[.pointer (some e)] 212))
    (by rw [World.cell?_alloc_at _ _ _ _ (by simp)]; rfl)
    (by rw [World.cell?_alloc_lt _ _ t (by simp; omega), World.cell?_alloc_lt _ _ t (by simp; omega), World.cell?_alloc_lt _ _ t (by simp; omega), World.cell?_alloc_lt _ _ t htl]; exact ht0)
    (by rw [World.frozen?_alloc_old _ _ t (by simp; omega), World.frozen?_alloc_old _ _ t (by simp; omega), World.frozen?_alloc_old _ _ t (by simp; omega), World.frozen?_alloc_old _ _ t (Nat.ne_of_lt htl)]; exact hf0)
  go_enter Tryz.func56, Tryz.ntmps56
  go_wp2
  refine wp_loop_rounds 1 ?_
  rw [rounds_succ]
  go_wp2
  go_ret
  exact ⟨rfl, rfl⟩
end Go.Proofs.YtmoilbakmlekbaaGreatDoor

/- part LibJ -/
namespace Bx
open Go Go.RowKit
theorem yIfaceG {P : Program} {ρ : Operand → Value} {w : World} {ty : TypeId} {T : TypeId} {x : Operand} {v : Value} {d : TypeDesc} (hx : ρ x = v) (hT : P.underlying T = some d) (hd : (match d with | .interface _ => false | _ => true) = true) : Y P ρ (.makeInterface T x) ty w (.iface T v) w := by
  cases d <;> first | (simp at hd; done) | simp [Y, xop, execOp, hx, Instr.makeInterface, run_underlying hT]
theorem fset_seen {F : ByteArray → Option Int} {l : List ByteArray} (h : ∀ s, (F s).isSome = memB s l) (n : ByteArray) (i : Int) : ∀ s, (fset F n (some i) s).isSome = memB s (l ++ [n]) := fun s => by
  rw [memB_snoc]
  unfold fset
  by_cases e : s = n
  · rw [if_pos e]; simp [e]
  · rw [if_neg e, h s]; simp [e]
theorem put_cell {w : World} {b : Nat} {old v : Value} {T : TypeId} (h : w.heap[b]? = some (.cells #[old] T (0, 0))) : Put b (.cells #[v] T (0, 0)) w (w.setCell ⟨b, 0, none⟩ v) := by
  have hlt := lt_of_heap h
  refine ⟨rfl, rfl, rfl, by simp [World.setCell], ?_, fun k _ hk => ?_⟩
  · show (w.heap.modify b _)[b]? = _
    rw [Array.getElem?_modify, if_pos rfl, h]; rfl
  · show (w.heap.modify b _)[k]? = _
    rw [Array.getElem?_modify, if_neg (fun e => hk e.symm)]
theorem set4 {S : List Nat} {w0 w : World} {L L' : List Item} {bt : Nat} {old v : Value} {T : TypeId} {o1 o2 o3 o4 : Obj} (hS : StX S w0 w L) [i : AtB L bt (Eq (.cells [old].toArray T (0, 0)))] [j : SetB L bt (Eq (.cells [v].toArray T (0, 0))) L'] :
    StX S w0 (((((w.alloc o1).alloc o2).alloc o3).alloc o4).setCell ⟨bt, 0, none⟩ v) L' := by
  have hb := hS.at bt (o := .cells [old].toArray T (0, 0))
  have e : Ext w ((((w.alloc o1).alloc o2).alloc o3).alloc o4) := ((ext_alloc _ _).trans (ext_alloc _ _)).trans ((ext_alloc _ _).trans (ext_alloc _ _))
  exact StX.put (b := bt) (o := .cells [v].toArray T (0, 0)) (hS.step e) (put_cell (e.get hb))
end Bx
namespace Go.Proofs.YtmoilbakmlekbaaGreatDoor
open Go Bx Go.RowKit
theorem c_AsHit {e bt : Nat} {old : Value} {S : List Nat} {w0 w : World} {L L' : List Bx.Item} {T : TypeId} (hS : StX S w0 w L) (hg : Glb w) [i : AtB L bt (Eq (.cells [old].toArray T (0, 0)))] [j : SetB L bt (Eq (.cells [.pointer (some ⟨e, 0, none⟩)].toArray T (0, 0))) L'] :
    CE Tryz.prog 56 #[.iface 117 (.pointer (some ⟨e, 0, none⟩)), .iface 125 (.pointer (some ⟨bt, 0, none⟩))] w fun u w' => u = .bool true ∧ StX S w0 w' L' := by
  have hb := hS.at bt (o := .cells [old].toArray T (0, 0))
  have h := asHitMistake ⟨e, 0, none⟩ ⟨bt, 0, none⟩ old w hg (by simp [World.cell?, hb]) (by simp [World.frozen?, hb])
  refine Calls.mono h ?_
  rintro ev w' ⟨rfl, rfl⟩
  refine ⟨_, rfl, rfl, ?_⟩
  exact set4 hS
end Go.Proofs.YtmoilbakmlekbaaGreatDoor

/- part LibI -/
namespace Bx
open Go Go.RowKit
/-- The contract of an iterator: as ItC; Rd: what it reads, that holds wherever it runs. -/
def ItR {α : Type} (P : Program) (g : FuncId) (cl : List Value) (w0 : World) (R : List Item) (enc : α → List Value) (Rd : World → Prop) (xs : List α) : Prop :=
  ∀ (l : Nat) (Cb : Bool → List α → List Item → Prop) (w : World) (L : List Item),
    (∀ pre w L M, Cb true pre L → StX [] w0 w (M ++ L) → Rd w) →
    (∀ pre x w L M, (pre ++ [x]) <+: xs → Cb true pre L → StX [] w0 w (M ++ L) → YieldIn P l (enc x) w fun v w' => ∃ b L', v = .bool b ∧ Cb b (pre ++ [x]) L' ∧ StX [] w0 w' (M ++ L')) →
    Cb true [] L → StX [] w0 w (R ++ L) → CE P g (.func (.yield l) #[] #[] :: cl).toArray w fun _ w' => ∃ L', StX [] w0 w' L' ∧ (Cb true xs L' ∨ ∃ pre, Cb false pre L')
section
variable {P : Program} {Q : Exit → Act → World → Prop} {n : Nat} {f : Fr} {w : World}
theorem rangeM {α : Type} {ds : List Deferred} {enc : α → List Value} {xs : List α} {w0 : World} {R L0 : List Item} {Rd : World → Prop} {g : Operand} {gf : FuncId} {cl : List Value} {ps : List Nat} {assign body : Code} [hnQ : NoOut Q]
    (hg : ev n f g = .func (.func gf) #[] cl.toArray) (eg : ∀ ars w, (callFunc gf ars).run P w = .ok (.enter gf ars) w)
    (hS : StX [] w0 w (R ++ L0)) (hit : ItR P gf cl w0 R enc Rd xs)
    (Cb : Option Code → List α → List Item → Prop) (h0 : Cb none [] L0) (hps : ∀ x ∈ xs, (enc x).length = ps.length) (hrd : ∀ pre w L M, Cb none pre L → StX [] w0 w (L ++ M) → Rd w)
    (hround : ∀ l pre x w L M, (pre ++ [x]) <+: xs → Cb none pre L → StX [] w0 w (L ++ M) →
      assign.wpIn (FX (some l)) 0 P (APost fun a w₁ => ∃ f' L', a = mkd n f' [] ∧ StX [] w0 w₁ (L' ++ M) ∧ ∀ M' w₂, StX [] w0 w₂ (L' ++ M') → body.wpIn (FX (some l)) 0 P (RPost w0 (fun c => Cb c (pre ++ [x])) M') (mkd n f' []) w₂) (mkd n (updz ps (enc x) f) []) w)
    (hdone : ∀ D w L, Cb none xs L → StX [] w0 w (obj D (.deferred (some [])) :: L) → Q .normal (mkd n f (coll D :: ds)) w)
    (hstop : ∀ D w L c pre, Cb (some c) pre L → StX [] w0 w (obj D (.deferred (some [])) :: L) → c.wpIn (FX none) 0 P Q (mkd n f (coll D :: ds)) w) :
    (Code.rangeFunc g ps.toArray assign body).wpIn (FX none) 0 P Q (mkd n f ds) w := by
  refine wpIn_rangeFunc ?_
  intro fn hfn
  show ∃ _, _
  obtain ⟨rec, hrec⟩ : ∃ rec : LoopState → Option Code → Loop, rec = fun st pe => { state := st, pending := pe, fn, tmps := (mkd n f ds).tmps, params := ps.toArray, assign, body, defers := w.heap.size } := ⟨_, rfl⟩
  obtain ⟨W1, hW1⟩ : ∃ W1, (w.alloc (.deferred (some []))).alloc (.loop (rec .ready none)) = W1 := ⟨_, rfl⟩
  obtain ⟨l, hl⟩ : ∃ l, l = w.heap.size + 1 := ⟨_, rfl⟩
  obtain ⟨D, hD⟩ : ∃ D, D = w.heap.size := ⟨_, rfl⟩
  have hS1 : StX [] w0 W1 (obj l (.loop (rec .ready none)) :: obj D (.deferred (some [])) :: (R ++ L0)) := by
    have e1 := hS.call1 (St.new w (.deferred (some [])))
    have e2 := e1.call1 (St.new (w.alloc (.deferred (some []))) (.loop (rec .ready none)))
    rw [World.size_alloc] at e2
    rw [← hW1, hl, hD]
    exact e2
  have hS2 : StX [] w0 W1 (R ++ (obj l (.loop (rec .ready none)) :: obj D (.deferred (some [])) :: L0)) := hS1.perm (perm3 _ _ _ _).symm
  refine ⟨l, [coll D], W1, { target := .fn (.func gf) cl.toArray, args := #[.func (.yield l) #[] #[]] }, W1, gf, (.func (.yield l) #[] #[] :: cl).toArray, W1, ?_, ?_, fun _ _ => trivial, ?_, fun h => (by cases h), ?_⟩
  · rw [← hW1, hrec, hl, hD]
    exact run_enterLoop_outer _ _ _ _ _
  · have hg' : (mkd n f ds).eval g = .func (.func gf) #[] cl.toArray := by rw [wD_eval, mk_eval, hg]
    simp only [resolve, hg']
    simp [go_sem]
  · simp only [invoke, eg]
    simp
  · let Cb' : Bool → List α → List Item → Prop := fun b pre LL => ∃ c L, b = c.isNone ∧ LL = obj l (.loop (rec (if c.isNone then .ready else .done) c)) :: obj D (.deferred (some [])) :: L ∧ Cb c pre L
    refine CallsIn.mono (calls_in (hit l Cb' W1 _ ?_ ?_ ⟨none, L0, rfl, rfl, h0⟩ hS2)) ?_
    · rintro pre w L M ⟨c, L, hc, rfl, hcb⟩ hSt
      obtain rfl : c = none := by cases c with | none => rfl | some c => exact absurd hc (by simp)
      have hSt' : StX [] w0 w (obj l (.loop (rec .ready none)) :: obj D (.deferred (some [])) :: (M ++ L)) := hSt.perm (perm3 _ _ _ _)
      have hStM : StX [] w0 w (L ++ (obj l (.loop (rec .ready none)) :: obj D (.deferred (some [])) :: M)) := hSt'.perm (((List.perm_append_comm (l₁ := M) (l₂ := L)).cons _).cons _ |>.trans (perm3 _ _ _ _).symm)
      exact hrd pre w L _ hcb hStM
    · rintro pre x w L M hpre ⟨c, L, hc, rfl, hcb⟩ hSt
      obtain rfl : c = none := by cases c with | none => rfl | some c => exact absurd hc (by simp)
      have hSt' : StX [] w0 w (obj l (.loop (rec .ready none)) :: obj D (.deferred (some [])) :: (M ++ L)) := hSt.perm (perm3 _ _ _ _)
      have hl0 := hSt'.at l (o := .loop (rec .ready none))
      have hx : x ∈ xs := hpre.subset (by simp)
      have hy := run_yield (P := P) (args := (enc x).toArray) hl0 (by rw [hrec]; simp [hps x hx])
      rw [hrec] at hy
      have ht : (ps.toArray.zip (enc x).toArray).foldl (fun tmps (p : Nat × Value) => tmps.setIfInBounds p.1 p.2) (mkd n f ds).tmps = (mk n (updz ps (enc x) f)).tmps := by
        rw [List.zip_toArray, List.foldl_toArray]
        exact foldl_updz n ps (enc x) f
      have ht' : (ps.toArray.zip (enc x).toArray).foldl (fun tmps (t, a) => tmps.setIfInBounds t a) (mkd n f ds).tmps = (mk n (updz ps (enc x) f)).tmps := ht
      simp only [ht'] at hy
      refine ⟨fn, _, assign, body, hy, roundIn_of_wpIn hfn ?_⟩
      have hStM : StX [] w0 w (L ++ (obj l (.loop (rec .ready none)) :: obj D (.deferred (some [])) :: M)) := hSt'.perm (((List.perm_append_comm (l₁ := M) (l₂ := L)).cons _).cons _ |>.trans (perm3 _ _ _ _).symm)
      refine wpIn_mono (hround l pre x w L _ hpre hcb hStM) ?_
      intro e a1 w1 hp
      cases e with
      | normal =>
        obtain ⟨f', L', rfl, hS3, hbody⟩ := hp
        have hS3' : StX [] w0 w1 (obj l (.loop (rec .ready none)) :: obj D (.deferred (some [])) :: (L' ++ M)) := hS3.perm (perm3 _ _ _ _)
        have hl1 := hS3'.at l (o := .loop (rec .ready none))
        refine ⟨_, run_beginRound hl1 (by rw [hrec]), ?_⟩
        have hS4 : StX [] w0 (w1.putObj l (.loop { rec .ready none with state := .busy })) (obj l (.loop { rec .ready none with state := .busy }) :: obj D (.deferred (some [])) :: (L' ++ M)) := hS3'.put (put_obj hl1)
        refine wpIn_mono (hbody _ _ (hS4.perm (perm3 _ _ _ _).symm)) ?_
        have fin : ∀ (c : Option Code) (w2 : World) (L2 : List Item), Cb c (pre ++ [x]) L2 → StX [] w0 w2 (L2 ++ (obj l (.loop { rec .ready none with state := .busy }) :: obj D (.deferred (some [])) :: M)) →
            ∃ v w', (Instr.endRound l c).run P w2 = .ok v w' ∧ ∃ u, Ending.returned v = .returned u ∧ ∃ b L', u = .bool b ∧ Cb' b (pre ++ [x]) L' ∧ StX [] w0 w' (M ++ L') := by
          intro c w2 L2 hc2 hS5
          have hS5' := hS5.perm (perm3 _ _ _ _)
          have hl2 := hS5'.at l (o := .loop { rec .ready none with state := .busy })
          have he := run_endRound (P := P) c hl2
          refine ⟨_, _, he, _, rfl, _, _, rfl, ⟨c, L2, rfl, rfl, hc2⟩, ?_⟩
          have hS6 : StX [] w0 (w2.putObj l (.loop { { rec .ready none with state := .busy } with state := if c.isNone then .ready else .done, pending := c })) (obj l (.loop { { rec .ready none with state := .busy } with state := if c.isNone then .ready else .done, pending := c }) :: obj D (.deferred (some [])) :: (L2 ++ M)) := hS5'.put (put_obj hl2)
          have hr : ({ { rec .ready none with state := .busy } with state := if c.isNone then .ready else .done, pending := c } : Loop) = rec (if c.isNone then .ready else .done) c := by rw [hrec]
          rw [hr] at hS6 ⊢
          exact hS6.perm (((List.perm_append_comm (l₁ := L2) (l₂ := M)).cons _).cons _ |>.trans (perm3 _ _ _ _).symm)
        intro e a2 w2 hp2
        cases e with
        | normal => obtain ⟨L2, hc2, hS5⟩ := hp2; exact fin none w2 L2 hc2 hS5
        | ret => obtain ⟨L2, hc2, hS5⟩ := hp2; exact fin _ w2 L2 hc2 hS5
        | exit id => obtain ⟨L2, hc2, hS5⟩ := hp2; exact fin _ w2 L2 hc2 hS5
        | goto t => obtain ⟨L2, hc2, hS5⟩ := hp2; exact fin _ w2 L2 hc2 hS5
        | panic c => exact hp2.elim
        | outgrown => exact hp2.elim
      | _ => exact hp.elim
    · rintro e w3 ⟨v, rfl, LL, hS7, hcb⟩
      have key : ∀ (c : Option Code) (L : List Item), StX [] w0 w3 (obj l (.loop (rec (if c.isNone then .ready else .done) c)) :: obj D (.deferred (some [])) :: L) →
          ∃ w4, (Instr.endLoop l).run P w3 = .ok c w4 ∧ StX [] w0 w4 (obj D (.deferred (some [])) :: L) := by
        intro c L hS8
        have hl3 := hS8.at l (o := .loop (rec (if c.isNone then .ready else .done) c))
        have he := run_endLoop (P := P) hl3 (by rw [hrec]; cases c <;> simp)
        have hp : (rec (if c.isNone then .ready else .done) c).pending = c := by rw [hrec]
        refine ⟨_, he.trans (congrArg (fun p => Result.ok p _) hp), ?_⟩
        have hS9 : StX [] w0 _ (obj l (.loop { rec (if c.isNone then .ready else .done) c with state := .exhausted }) :: obj D (.deferred (some [])) :: L) := hS8.put (put_obj (o' := .loop { rec (if c.isNone then .ready else .done) c with state := .exhausted }) hl3)
        exact hS9.sub (List.sublist_cons_self _ _)
      rcases hcb with ⟨c, L, hc, rfl, hcb⟩ | ⟨pre, c, L, hc, rfl, hcb⟩
      · obtain rfl : c = none := by cases c with | none => rfl | some c => exact absurd hc (by simp)
        obtain ⟨w4, he, hS9⟩ := key none L hS7
        exact ⟨none, w4, he, hdone D w4 L hcb hS9⟩
      · cases c with
        | none => simp at hc
        | some c =>
          obtain ⟨w4, he, hS9⟩ := key (some c) L hS7
          exact ⟨some c, w4, he, hstop D w4 L c pre hcb hS9⟩
theorem rangeR {α : Type} {enc : α → List Value} {xs : List α} {w0 : World} {R L0 : List Item} {Rd : World → Prop} {g : Operand} {gf : FuncId} {cl : List Value} {ps : List Nat} {assign body : Code} [hnQ : NoOut Q]
    (hg : ev n f g = .func (.func gf) #[] cl.toArray) (eg : ∀ ars w, (callFunc gf ars).run P w = .ok (.enter gf ars) w)
    (hS : StX [] w0 w (R ++ L0)) (hit : ItR P gf cl w0 R enc Rd xs)
    (Cb : Option Code → List α → List Item → Prop) (h0 : Cb none [] L0) (hps : ∀ x ∈ xs, (enc x).length = ps.length) (hrd : ∀ pre w L M, Cb none pre L → StX [] w0 w (L ++ M) → Rd w)
    (hround : ∀ l pre x w L M, (pre ++ [x]) <+: xs → Cb none pre L → StX [] w0 w (L ++ M) →
      assign.wpIn (FX (some l)) 0 P (APost fun a w₁ => ∃ f' L', a = mkd n f' [] ∧ StX [] w0 w₁ (L' ++ M) ∧ ∀ M' w₂, StX [] w0 w₂ (L' ++ M') → body.wpIn (FX (some l)) 0 P (RPost w0 (fun c => Cb c (pre ++ [x])) M') (mkd n f' []) w₂) (mkd n (updz ps (enc x) f) []) w)
    (hdone : ∀ D w L, Cb none xs L → StX [] w0 w (obj D (.deferred (some [])) :: L) → Q .normal (mkd n f [coll D]) w)
    (hstop : ∀ D w L c pre, Cb (some c) pre L → StX [] w0 w (obj D (.deferred (some [])) :: L) → c.wpIn (FX none) 0 P Q (mkd n f [coll D]) w) :
    (Code.rangeFunc g ps.toArray assign body).wpIn (FX none) 0 P Q (mkd n f []) w :=
  rangeM (ds := []) hg eg hS hit Cb h0 hps hrd hround hdone hstop
variable {r : Option Nat}
theorem loopM {c : Code} {a : Act} (I : Fr → List Deferred → World → Nat → Prop) (k : Nat) (h0 : ∃ f ds, a = mkd n f ds ∧ I f ds w k) (hstep : ∀ f ds w k, I f ds w k → c.wpIn (FX r) 0 P (Exit.then (fun a' w' => ∃ f' ds' k', a' = mkd n f' ds' ∧ I f' ds' w' k' ∧ k' < k) Q) (mkd n f ds) w) : (Code.loop c).wpIn (FX r) 0 P Q a w := by
  refine wpIn_loop (fun a w => ∃ f ds k, a = mkd n f ds ∧ I f ds w k) (fun a w => Classical.epsilon fun k => (∃ f ds, a = mkd n f ds ∧ I f ds w k) ∧ ∀ j, (∃ f ds, a = mkd n f ds ∧ I f ds w j) → k ≤ j) ?_ ?_
  · obtain ⟨f, ds, ha, hI⟩ := h0
    exact ⟨f, ds, k, ha, hI⟩
  · rintro a1 w1 ⟨f, ds, k1, rfl, hI⟩
    have least : ∀ (a : Act) (w : World) (k : Nat), (∃ f ds, a = mkd n f ds ∧ I f ds w k) → (∃ f ds, a = mkd n f ds ∧ I f ds w (Classical.epsilon fun k => (∃ f ds, a = mkd n f ds ∧ I f ds w k) ∧ ∀ j, (∃ f ds, a = mkd n f ds ∧ I f ds w j) → k ≤ j)) ∧ ∀ j, (∃ f ds, a = mkd n f ds ∧ I f ds w j) → (Classical.epsilon fun k => (∃ f ds, a = mkd n f ds ∧ I f ds w k) ∧ ∀ j, (∃ f ds, a = mkd n f ds ∧ I f ds w j) → k ≤ j) ≤ j := by
      intro a w k hk
      have hex : ∃ k, (∃ f ds, a = mkd n f ds ∧ I f ds w k) ∧ ∀ j, (∃ f ds, a = mkd n f ds ∧ I f ds w j) → k ≤ j := by
        induction k using Nat.strongRecOn with
        | _ k ih =>
          by_cases h : ∃ j, j < k ∧ ∃ f ds, a = mkd n f ds ∧ I f ds w j
          · obtain ⟨j, hj, hj2⟩ := h; exact ih j hj hj2
          · exact ⟨k, hk, fun j hj => by
              rcases Nat.lt_or_ge j k with h1 | h1
              · exact absurd ⟨j, h1, hj⟩ h
              · exact h1⟩
      exact Classical.epsilon_spec hex
    obtain ⟨⟨f2, ds2, he, hI2⟩, -⟩ := least (mkd n f ds) w1 k1 ⟨f, ds, rfl, hI⟩
    rw [he]
    rw [he] at hI2
    refine wpIn_mono (hstep f2 ds2 w1 _ hI2) ?_
    intro e a' w' h
    cases e with
    | normal =>
      obtain ⟨f', ds', k', rfl, hI', hlt⟩ := h
      exact ⟨⟨f', ds', k', rfl, hI'⟩, Nat.lt_of_le_of_lt ((least (mkd n f' ds') w' k' ⟨f', ds', rfl, hI'⟩).2 k' ⟨f', ds', rfl, hI'⟩) hlt⟩
    | exit id => exact h
    | goto l => exact h
    | ret => exact h
    | panic ch => exact h
    | outgrown => exact h
theorem seqMJ {x y : Code} {a : Act} (I : Fr → List Deferred → World → Prop) (hx : x.wpIn (FX r) 0 P (Exit.then (fun a w => ∃ f ds, a = mkd n f ds ∧ I f ds w) Q) a w) (hy : ∀ f ds w, I f ds w → y.wpIn (FX r) 0 P Q (mkd n f ds) w) : (Code.seq x y).wpIn (FX r) 0 P Q a w := by
  refine wpIn_seq (wpIn_mono hx ?_)
  intro e a w h
  cases e with
  | normal => obtain ⟨f, ds, rfl, hI⟩ := h; exact hy f ds w hI
  | exit id => exact h
  | goto l => exact h
  | ret => exact h
  | panic ch => exact h
  | outgrown => exact h
abbrev marks (Ds : List Nat) : List Item := Ds.map fun D => obj D (.deferred (some []))
theorem leafDs {fn : Func} {S : List Nat} {w0 : World} {L : List Item} {R : Value → World → Prop} {v : Value} {tmps : Array Value}
    (hr : ∀ w', StX S w0 w' L → (results fn tmps).run P w' = .ok v w') (h : ∀ w', StX S w0 w' L → R v w') : ∀ (Ds : List Nat) (w : World), StX S w0 w (marks Ds ++ L) → LeavesInM (FX none) 0 P fn tmps (fun e w' => ∃ v, e = .returned v ∧ R v w') (Ds.map coll) .returning w
  | [], w, hS => ⟨v, hr w hS, v, rfl, h w hS⟩
  | D :: Ds, w, hS => by
    have hS1 : StX S w0 w (obj D (.deferred (some [])) :: (marks Ds ++ L)) := hS
    have h0 := hS1.at D (o := .deferred (some []))
    have hS2 : StX S w0 (w.putObj D (.deferred none)) (obj D (.deferred none) :: (marks Ds ++ L)) := hS1.put (put_obj h0)
    exact ⟨by simp, .inl ⟨D, _, rfl, run_takeDeferred h0, leafDs hr h Ds _ (hS2.sub (List.sublist_cons_self _ _))⟩⟩
theorem leafM {fn : Func} {S : List Nat} {w0 : World} {L : List Item} {Ds : List Nat} {R : Value → World → Prop} {v : Value} (hS : StX S w0 w (packI (marks Ds) :: L))
    (hr : ∀ w', StX S w0 w' L → (results fn (mk n f).tmps).run P w' = .ok v w') (h : ∀ w', StX S w0 w' L → R v w') : bodyPostM (FX none) 0 P fn (fun e w' => ∃ v, e = .returned v ∧ R v w') .ret (mkd n f (Ds.map coll)) w := by
  have := leafDs (P := P) (fn := fn) (R := R) (v := v) (tmps := (mk n f).tmps) hr h Ds w hS.unpack
  exact this
theorem StX.mark {S : List Nat} {w0 w : World} {D : Nat} {Ds : List Nat} {L : List Item} (h : StX S w0 w (obj D (.deferred (some [])) :: packI (marks Ds) :: L)) : StX S w0 w (packI (marks (D :: Ds)) :: L) := by
  have h1 : StX S w0 w (obj D (.deferred (some [])) :: (marks Ds ++ L)) := by
    have h2 : StX S w0 w (packI (marks Ds) :: obj D (.deferred (some [])) :: L) := h.perm (List.Perm.swap _ _ _)
    have h3 := h2.unpack
    exact h3.perm List.perm_middle
  exact StX.pack (M := marks (D :: Ds)) h1
theorem StX.mark0 {S : List Nat} {w0 w : World} {L : List Item} (h : StX S w0 w L) : StX S w0 w (packI (marks []) :: L) := StX.pack (M := marks []) h
theorem StX.base {w0 w1 w : World} {L : List Item} (e : Ext w0 w1) (h : StX [] w1 w L) : StX [] w0 w L :=
  ⟨(e.trans h.ext).extX, h.ok, fun b hb => .inl (Nat.le_trans e.size (h.owned hb)), h.apart⟩
theorem StX.front {S : List Nat} {w0 w : World} {A B : List Item} {x : Item} (h : StX S w0 w (A ++ x :: B)) : StX S w0 w (x :: (A ++ B)) := h.perm List.perm_middle
end
section
variable {P : Program} {ops : Array Oper} {Q : Exit → Act → World → Prop} {n m : Nat} {F : Fence}
theorem wpAny_seqIn {md : Region.Mode} : ∀ (l : List Oper) (k : Nat) (listed : Array Bool) (a : Act) (w : World) (x : Nat), (∀ j, l[j]? = ops[k + j]?) →
    Region.seqB md ops l.length k listed = true → wpListIn F m P ops Q l a w → wpAnyIn F m P md ops Q (x + l.length) listed a w
  | [], k, listed, a, w, x, _, hB, h => by
    have h0 : Region.ready md ops listed = [] := by simpa [Region.seqB] using hB
    cases x with
    | zero => exact ⟨h0, h⟩
    | succ x => exact ⟨fun _ => h, fun i hi => by rw [h0] at hi; cases hi⟩
  | o :: l, k, listed, a, w, x, hl, hB, h => by
    have h0 : ops[k]? = some o := by simpa using (hl 0).symm
    simp only [List.length_cons, Region.seqB, Bool.and_eq_true, decide_eq_true_eq] at hB
    show wpAnyIn F m P md ops Q ((x + l.length) + 1) listed a w
    refine ⟨fun h1 => (by rw [hB.1] at h1; cases h1), fun i hi => ?_⟩
    rw [hB.1] at hi
    have hik : i = k := by simpa using hi
    subst hik
    have hw : wpOpIn F m P ops Q i (wpListIn F m P ops Q l) a w := by unfold wpOpIn; simp only [h0]; exact h
    exact wpOpIn_mono (fun a' w' h' => wpAny_seqIn l (i + 1) _ a' w' x (fun j => by have := hl (j + 1); simpa [Nat.add_assoc, Nat.add_comm 1 j] using this) hB.2 h') hw
/-- The post of the head: behind it the tail. -/
def headPostIn (F : Fence) (m : Nat) (P : Program) (ops : Array Oper) (Q : Exit → Act → World → Prop) (n : Nat) : Exit → Act → World → Prop
  | .normal, a, w => wpListIn F m P ops Q (ops.toList.drop n) a w
  | e, a, w => Q e a w
instance noHead {F : Fence} {m : Nat} {P : Program} {ops : Array Oper} {Q : Exit → Act → World → Prop} {n : Nat} [i : NoOut Q] : NoOut (headPostIn F m P ops Q n) := ⟨fun a w h => i.no a w h⟩
theorem wpOp_headIn (hb : backB ops n = true) {i : Nat} (hi : i < n) {K K' : Act → World → Prop} {a : Act} {w : World} (hK : ∀ a w, K a w → K' a w)
    (h : wpOpIn F m P (headOf ops n) (headPostIn F m P ops Q n) i K a w) : wpOpIn F m P ops Q i K' a w := by
  obtain ⟨o, ho, _, hg⟩ := backB_spec hb hi
  have hh : (headOf ops n)[i]? = some o := (headOf_get hi).trans ho
  unfold wpOpIn at h ⊢
  simp only [ho, hh] at h ⊢
  have hw : Region.wanted o (yielded (headOf ops n) a.tmps) = Region.wanted o (yielded ops a.tmps) := by
    unfold Region.wanted
    cases hgd : o.guard with
    | none => rfl
    | some p =>
      obtain ⟨j, b⟩ := p
      have hj := hg j b hgd
      simp only [yielded, headOf_get (ops := ops) (n := n) (show j < n by omega)]
  rw [hw] at h
  split
  · rename_i hwd
    rw [if_pos hwd] at h
    unfold Oper.wpIn at h ⊢
    refine ⟨h.1, ?_⟩
    have h := h.2
    generalize (o.semAt F.round a.eval).run P w = r at h ⊢
    cases r with
    | ok x w' =>
      cases x <;> simp only [Oper.uponIn] at h ⊢ <;> first
        | exact hK _ _ h
        | exact h
        | exact ⟨h.1, CallsIn.mono h.2 fun e w'' he => by cases e <;> first | exact hK _ _ he | exact he⟩
        | exact ⟨h.1, RowsIn.mono h.2 fun _ _ he => hK _ _ he⟩
        | exact ⟨h.1, RoundIn.mono h.2 fun e w'' he => by cases e <;> first | exact hK _ _ he | exact he⟩
    | halt x w' => cases x <;> exact h
  · rename_i hwd
    rw [if_neg hwd] at h
    exact ⟨h.1, hK _ _ h.2⟩
theorem wpAny_headIn (hb : backB ops n = true) (hs : Region.sinkB .any ops n = true) (hc : Region.chainB .any ops n = true) (hn : n < ops.size)
    (hq : Region.seqB .any ops (ops.size - n) n (Array.replicate n true ++ Array.replicate (ops.size - n) false) = true) :
    ∀ (f : Nat) (lh : Array Bool) (a : Act) (w : World), lh.size = n → HeadInv .any ops n (lh ++ Array.replicate (ops.size - n) false) →
      wpAnyIn F m P .any (headOf ops n) (headPostIn F m P ops Q n) f lh a w → wpAnyIn F m P .any ops Q (f + (ops.size - n)) (lh ++ Array.replicate (ops.size - n) false) a w := by
  have hsz : (headOf ops n).size = n := by simp [headOf]; omega
  have all : ∀ lh : Array Bool, lh.size = n → Region.ready .any (headOf ops n) lh = [] → lh = Array.replicate n true := by
    intro lh hl hr
    have key : ∀ i, i < n → lh.getD i false = true := by
      intro i
      induction i using Nat.strongRecOn with
      | _ i ih =>
        intro hi
        cases hx : lh.getD i false with
        | true => rfl
        | false =>
          obtain ⟨o, ho, hedge, _⟩ := backB_spec hb hi
          have : i ∈ Region.ready .any (headOf ops n) lh := mem_ready.2 ⟨getD_in (by omega) hx, o, (headOf_get hi).trans ho, fun e he hbe => ih e.on (hedge e he hbe) (by have := hedge e he hbe; omega)⟩
          rw [hr] at this
          cases this
    apply Array.ext
    · simp [hl]
    · intro i h1 h2
      have := key i (by omega)
      simp [Array.getD, h1] at this
      simp [this]
  have tail : ∀ (lh : Array Bool) (a : Act) (w : World) (x : Nat), lh = Array.replicate n true → headPostIn F m P ops Q n .normal a w → wpAnyIn F m P .any ops Q (x + (ops.size - n)) (lh ++ Array.replicate (ops.size - n) false) a w := by
    rintro lh a w x rfl h
    have := wpAny_seqIn (F := F) (m := m) (P := P) (Q := Q) (md := .any) (ops := ops) (ops.toList.drop n) n (Array.replicate n true ++ Array.replicate (ops.size - n) false) a w x (fun j => by simp) (by simpa using hq) h
    simpa using this
  intro f
  induction f with
  | zero => exact fun lh a w hl _ h => tail lh a w 0 (all lh hl h.1) h.2
  | succ f ih =>
    intro lh a w hl inv h
    by_cases hr : Region.ready .any (headOf ops n) lh = []
    · exact tail lh a w (f + 1) (all lh hl hr) (h.1 hr)
    · obtain ⟨i0, hi0⟩ := List.exists_mem_of_ne_nil _ hr
      obtain ⟨hu0, o0, ho0, he0⟩ := mem_ready.1 hi0
      have hi0n : i0 < n := by have := (Array.getElem?_eq_some_iff.1 ho0).1; omega
      have hun : (lh ++ Array.replicate (ops.size - n) false).getD i0 true = false := by rw [getD_app_lt (by omega)]; exact hu0
      have lift : ∀ i, i < n → (i ∈ Region.ready .any ops (lh ++ Array.replicate (ops.size - n) false) ↔ i ∈ Region.ready .any (headOf ops n) lh) := by
        intro i hi
        obtain ⟨o, ho, hedge, _⟩ := backB_spec hb hi
        rw [mem_ready, mem_ready, getD_app_lt (by omega), headOf_get hi]
        constructor
        · rintro ⟨h1, o', ho', h2⟩
          refine ⟨h1, o', ho', fun e he hbe => ?_⟩
          rw [ho] at ho'
          obtain rfl := Option.some.inj ho'
          have := h2 e he hbe
          rwa [getD_app_lt (by have := hedge e he hbe; omega)] at this
        · rintro ⟨h1, o', ho', h2⟩
          refine ⟨h1, o', ho', fun e he hbe => ?_⟩
          rw [ho] at ho'
          obtain rfl := Option.some.inj ho'
          rw [getD_app_lt (by have := hedge e he hbe; omega)]
          exact h2 e he hbe
      have : f + 1 + (ops.size - n) = (f + (ops.size - n)) + 1 := by omega
      rw [this]
      refine ⟨fun h0 => ?_, fun i hi => ?_⟩
      · have := (lift i0 hi0n).2 hi0
        rw [h0] at this
        cases this
      · have hin : i < n := by
          rcases Nat.lt_or_ge i n with h | h
          · exact h
          · exact absurd hi (tail_waits hs hc hn inv _ i0 rfl hi0n hun i h)
        have hset : (lh ++ Array.replicate (ops.size - n) false).setIfInBounds i true = lh.setIfInBounds i true ++ Array.replicate (ops.size - n) false := set_app (by omega)
        refine wpOp_headIn hb hin (fun a' w' h' => ?_) (h.2 i ((lift i hin).1 hi))
        rw [hset]
        exact ih _ a' w' (by simpa using hl) (hset ▸ inv.set hi hin) h'
variable {r : Option Nat} {ds : List Deferred} {S : List Nat} {w0 w : World} {L : List Item} {f : Fr} {nf : Nat}
theorem region_tailYX {id : Nat} {l : List Oper} [i : NoOut Q] (hm : P.follows .mixedOrders = true) (k : Nat) (hB : tailB l.toArray k = true) (hn : (l.take k).all noDefer = true) (hS : StX S w0 w L)
    (h : wpQ P (headOf l.toArray k) S w0 L (fun a => ∀ w', StX S w0 w' L → wpListIn (FX r) 0 P l.toArray Q (l.drop k) (wD ds a) w') nf (l.take k) f) : (Code.region id l.toArray true).wpIn (FX r) 0 P Q (mkd nf f ds) w := by
  simp only [tailB, Bool.and_eq_true, decide_eq_true_eq] at hB
  obtain ⟨⟨⟨⟨⟨hb, hs⟩, hc⟩, hk⟩, hq⟩, hl⟩ := hB
  simp only [Region.lexB, Bool.and_eq_true] at hl
  refine wpIn_region_any hm ?_
  have h1 := wpAnyQ_lex (P := P) (C := fun w => StX S w0 w L) (md := .any) hl.1 (l.toArray.toList.take k) 0 (Array.replicate (headOf l.toArray k).size false) (mk nf f) (by simp [headOf]) (by simpa [headOf] using hl.2) h
  have h2 := wpAny_of_quiet (P := P) (Q' := reD ds (headPostIn (FX r) 0 P l.toArray Q k)) (fun a' w' hw' (h : ∀ w', StX S w0 w' L → wpListIn (FX r) 0 P l.toArray Q (l.toArray.toList.drop k) (wD ds a') w') => h w' hw') _ _ (mk nf f) { w with drawn := w.drawn + 1 } (hS.step (ext_drew w)) h1
  have hsz : (headOf l.toArray k).size = k := by simp [headOf] at *; omega
  have hlen : (l.toArray.toList.take k).length = k := by simp at *; omega
  rw [hsz, hlen] at h2
  have h2' := any_up (r := r) (no_reD (noHead (F := FX r) (m := 0) (P := P) (ops := l.toArray) (Q := Q) (n := k))) (by simpa [headOf] using hn) _ _ _ _ h2
  have e : Array.replicate k false ++ Array.replicate (l.toArray.size - k) false = Array.replicate l.toArray.size false := by
    rw [Array.replicate_append_replicate, show k + (l.toArray.size - k) = l.toArray.size by omega]
  have inv : HeadInv .any l.toArray k (Array.replicate k false ++ Array.replicate (l.toArray.size - k) false) := by
    rw [e]
    refine ⟨by simp, fun j oj _ hl => ?_, fun t _ h2 => by simp only [List.size_toArray] at h2; simp [h2]⟩
    rw [getD_replicate_false] at hl
    cases hl
  have h3 := wpAny_headIn (F := FX r) (m := 0) (P := P) (Q := Q) hb hs hc hk hq k (Array.replicate k false) (mkd nf f ds) { w with drawn := w.drawn + 1 } (by simp) inv h2'
  rw [show k + (l.toArray.size - k) = l.toArray.size by omega, e] at h3
  exact h3
theorem qtlY {ops' : Array Oper} {tl : List Oper} (h : ∀ w', StX S w0 w' L → wpListIn (FX r) 0 P ops Q tl (mkd nf f ds) w') : wpQ P ops' S w0 L (fun a => ∀ w', StX S w0 w' L → wpListIn (FX r) 0 P ops Q tl (wD ds a) w') nf [] f := h
end
theorem blockOut {Q : Exit → Act → World → Prop} {id id' : Nat} {a : Act} {w : World} (h : id' ≠ id) (k : Q (.exit id') a w) : Exit.inBlock id Q (.exit id') a w := by
  show (if id' = id then Q .normal a w else Q (.exit id') a w)
  rw [if_neg h]; exact k
theorem thenOut {K : Act → World → Prop} {Q : Exit → Act → World → Prop} {id' : Nat} {a : Act} {w : World} (k : Q (.exit id') a w) : Exit.then K Q (.exit id') a w := k
theorem blockIn {Q : Exit → Act → World → Prop} {id : Nat} {a : Act} {w : World} (k : Q .normal a w) : Exit.inBlock id Q (.exit id) a w := by
  show (if id = id then Q .normal a w else Q (.exit id) a w)
  rw [if_pos rfl]; exact k
end Bx

/- part A10 -/
namespace Bx
def insV (f : Int → Int) (x : Int) : List Int → List Int
  | [] => [x]
  | y :: p => if f x < f y then y :: insV f x p else x :: y :: p
def sortR (f : Int → Int) (l : List Int) : List Int := l.foldl (fun p x => insV f x p) []
def sortV (f : Int → Int) (l : List Int) : List Int := (sortR f l).reverse
theorem sortR_snoc (f : Int → Int) (l : List Int) (x : Int) : sortR f (l ++ [x]) = insV f x (sortR f l) := by unfold sortR; rw [List.foldl_append]; rfl
theorem insV_perm (f : Int → Int) (x : Int) : ∀ p : List Int, (insV f x p).Perm (x :: p)
  | [] => List.Perm.refl _
  | y :: p => by
    rw [insV]
    split
    · exact ((insV_perm f x p).cons y).trans (List.Perm.swap x y p)
    · exact List.Perm.refl _
theorem snocR {α : Type} {p : List α → Prop} (h0 : p []) (h1 : ∀ l n, p l → p (l ++ [n])) (l : List α) : p l := by
  have : ∀ r : List α, p r.reverse := fun r => by
    induction r with
    | nil => exact h0
    | cons x r ih => rw [List.reverse_cons]; exact h1 _ _ ih
  have := this l.reverse
  rwa [List.reverse_reverse] at this
theorem sortR_perm (f : Int → Int) (l : List Int) : (sortR f l).Perm l := by
  induction l using snocR with
  | h0 => exact List.Perm.refl _
  | h1 l x ih =>
    rw [sortR_snoc]
    exact (insV_perm f x _).trans ((ih.cons x).trans (List.perm_append_comm (l₁ := [x]) (l₂ := l)))
theorem sortV_perm (f : Int → Int) (l : List Int) : (sortV f l).Perm l := (List.reverse_perm _).trans (sortR_perm f l)
theorem sortV_len (f : Int → Int) (l : List Int) : (sortV f l).length = l.length := (sortV_perm f l).length_eq
theorem ins_stop {f : Int → Int} {x y : Int} {ks : List Int} (h : ¬ f x < f y) : insV f x ((ks ++ [y]).reverse) = x :: (ks ++ [y]).reverse := by
  rw [List.reverse_append]; exact if_neg h
theorem ins_move {f : Int → Int} {x y : Int} {ks : List Int} (h : f x < f y) : insV f x ((ks ++ [y]).reverse) = y :: insV f x ks.reverse := by
  rw [List.reverse_append]; exact if_pos h
theorem sortV_step (f : Int → Int) {l : List Int} {i : Nat} {x : Int} (h : l[i]? = some x) : sortR f (l.take (i + 1)) = insV f x (sortR f (l.take i)) := by rw [take_snoc h, sortR_snoc]
theorem mem_idxL {t : Task} {i : Int} : i ∈ idxL t ↔ 0 ≤ i ∧ i < t.towns.length := by
  unfold idxL
  simp only [List.mem_map, List.mem_range]
  constructor
  · rintro ⟨a, h, rfl⟩; exact ⟨by simp, by simpa using h⟩
  · rintro ⟨h1, h2⟩; exact ⟨i.toNat, by omega, by simp; omega⟩
theorem mem_wetL {t : Task} {i : Int} : i ∈ wetL t ↔ (0 ≤ i ∧ i < t.towns.length) ∧ 0 < (arr t i).2 := by
  unfold wetL
  rw [List.mem_filter, mem_idxL, decide_eq_true_eq]
theorem mem_chL {t : Task} {c : Int} : c ∈ chL t ↔ 0 ≤ c ∧ c < t.chans.length := by
  unfold chL
  simp only [List.mem_map, List.mem_range]
  constructor
  · rintro ⟨a, h, rfl⟩; exact ⟨by simp, by simpa using h⟩
  · rintro ⟨h1, h2⟩; exact ⟨c.toNat, by omega, by simp; omega⟩
theorem idxL_len (t : Task) : (idxL t).length = t.towns.length := by simp [idxL]
theorem idxL_get {t : Task} {i : Nat} (h : i < t.towns.length) : (idxL t)[i]? = some (i : Int) := by simp [idxL, h]
theorem wetL_len (t : Task) : (wetL t).length ≤ t.towns.length := by rw [← idxL_len]; exact List.length_filter_le _ _
theorem twn_at {t : Task} {i : Nat} {x : Town} (h : t.towns[i]? = some x) : twn t i = x := by unfold twn; simp [List.getD, h]
theorem chn_at {t : Task} {i : Nat} {x : Chan} (h : t.chans[i]? = some x) : chn t i = x := by unfold chn; simp [List.getD, h]
theorem fold_arr {t : Task} (ht : TaskOk t) {x : Town} (hx : TownOk t x) : ∀ (fs : List (List Int)), (∀ l ∈ fs, l ∈ t.floods) → ∀ s : Span × Int, 0 ≤ s.1.lo ∧ s.1.lo ≤ 200500 ∧ 0 ≤ s.1.hi ∧ s.1.hi ≤ 200500 ∧ 0 ≤ s.2 →
    0 ≤ (fs.foldl (arrStep x) s).1.lo ∧ (fs.foldl (arrStep x) s).1.lo ≤ 200500 ∧ 0 ≤ (fs.foldl (arrStep x) s).1.hi ∧ (fs.foldl (arrStep x) s).1.hi ≤ 200500 ∧ 0 ≤ (fs.foldl (arrStep x) s).2 ∧ (fs.foldl (arrStep x) s).2 ≤ s.2 + fs.length
  | [], _, s, h => by simp only [List.foldl_nil, List.length_nil]; omega
  | l :: fs, hm, s, h => by
    have hl := ht.flood l (hm l (List.mem_cons_self ..))
    have hp := hx.pol
    have htr := hx.travel
    have hin : x.polder.toNat < l.length := by omega
    have hv : l.getD x.polder.toNat 0 ≤ 200000 := by
      have : l.getD x.polder.toNat 0 = l[x.polder.toNat] := by simp [List.getD, hin]
      rw [this]; exact (hl.2 _ (List.getElem_mem hin)).2
    rw [List.foldl_cons]
    have := fold_arr ht hx fs (fun l hl => hm l (List.mem_cons_of_mem _ hl)) (arrStep x s l) (by
      unfold arrStep
      split
      · exact h
      · split
        · simp only; omega
        · simp only; omega)
    have h2 : (arrStep x s l).2 ≤ s.2 + 1 := by
      unfold arrStep
      split
      · omega
      · split
        · simp only; omega
        · simp only; omega
    simp only [List.length_cons]
    omega
theorem town_ok {t : Task} (ht : TaskOk t) {i : Int} (hi : 0 ≤ i ∧ i < t.towns.length) : TownOk t (twn t i) := by
  obtain ⟨k, rfl⟩ := Int.eq_ofNat_of_zero_le hi.1
  have hk : k < t.towns.length := by omega
  rw [twn_at (List.getElem?_eq_getElem hk)]
  exact ht.town _ (List.getElem_mem hk)
theorem arr_bd {t : Task} (ht : TaskOk t) {i : Int} (hi : 0 ≤ i ∧ i < t.towns.length) : (0 ≤ (arr t i).1.lo ∧ (arr t i).1.lo ≤ 200500) ∧ (0 ≤ (arr t i).1.hi ∧ (arr t i).1.hi ≤ 200500) ∧ 0 ≤ (arr t i).2 ∧ (arr t i).2 ≤ t.floods.length := by
  have := fold_arr ht (town_ok ht hi) t.floods (fun _ h => h) (⟨0, 0⟩, 0) (by simp)
  unfold arr arrF
  simp only at this
  omega
theorem act_bd {t : Task} (ht : TaskOk t) {i : Int} (hi : 0 ≤ i ∧ i < t.towns.length) : -500 ≤ actF t i ∧ actF t i ≤ 200500 := by
  have := arr_bd ht hi
  have := (town_ok ht hi).lead
  unfold actF
  omega
theorem chan_ok {t : Task} (ht : TaskOk t) {c : Int} (hc : 0 ≤ c ∧ c < t.chans.length) : (0 ≤ (chn t c).delay ∧ (chn t c).delay ≤ 50) ∧ 0 ≤ (chn t c).room ∧ (chn t c).room ≤ 20 := by
  obtain ⟨k, rfl⟩ := Int.eq_ofNat_of_zero_le hc.1
  have hk : k < t.chans.length := by omega
  rw [chn_at (List.getElem?_eq_getElem hk)]
  have := ht.chan _ (List.getElem_mem hk)
  omega
end Bx

/- part A11 -/
namespace Bx
open Go Go.RowKit
def arrS (t : Task) : List Span := (idxL t).map fun i => (arr t i).1
def arrN (t : Task) : List Int := (idxL t).map fun i => (arr t i).2
theorem arrS_len (t : Task) : (arrS t).length = t.towns.length := by simp [arrS, idxL_len]
theorem arrN_len (t : Task) : (arrN t).length = t.towns.length := by simp [arrN, idxL_len]
theorem arrS_get {t : Task} {i : Nat} (h : i < t.towns.length) : (arrS t)[i]? = some (arr t i).1 := by simp [arrS, idxL_get h]
theorem arrN_get {t : Task} {i : Nat} (h : i < t.towns.length) : (arrN t)[i]? = some (arr t i).2 := by simp [arrN, idxL_get h]
/-- The board of a valid task at b. -/
def RBoard (w : World) (b : Nat) (t : Task) : Prop := ∃ hv nv fv cv mv T, w.heap[b]? = some (.cells [.int .i64 t.polders, hv, nv, fv, cv, mv].toArray T (0, 0)) ∧ RTask w [.int .i64 t.polders, hv, nv, fv] t ∧ Sl w 2 RSpan cv (arrS t) ∧ Sl w 1 RInt mv (arrN t) ∧ TaskOk t
theorem RBoard.ext {w w' : World} {b : Nat} {t : Task} (h : RBoard w b t) (e : Ext w w') : RBoard w' b t := by
  obtain ⟨hv, nv, fv, cv, mv, T, h1, h2, h3, h4, h5⟩ := h
  exact ⟨hv, nv, fv, cv, mv, T, e.get h1, h2.ext e, h3.ext RSpan.stays e, h4.ext RInt.stays e, h5⟩
theorem RBoard.ok {w : World} {b : Nat} {t : Task} (h : RBoard w b t) : TaskOk t := by obtain ⟨_, _, _, _, _, _, _, _, _, _, h⟩ := h; exact h
/-- What is read of a board: its cells, and each slice's cells. -/
theorem RBoard.opn {w : World} {b : Nat} {t : Task} (h : RBoard w b t) : ∃ a1 c1 a2 c2 a3 c3 a4 c4 a5 c5 T, w.heap[b]? = some (.cells [.int .i64 t.polders, .slice a1 t.chans.length c1, .slice a2 t.towns.length c2, .slice a3 t.floods.length c3, .slice a4 t.towns.length c4, .slice a5 t.towns.length c5].toArray T (0, 0)) ∧
    Sl w 3 RChan (.slice a1 t.chans.length c1) t.chans ∧ Sl w 5 RTown (.slice a2 t.towns.length c2) t.towns ∧ Sl w 1 RRow (.slice a3 t.floods.length c3) t.floods ∧ Sl w 2 RSpan (.slice a4 t.towns.length c4) (arrS t) ∧ Sl w 1 RInt (.slice a5 t.towns.length c5) (arrN t) ∧ TaskOk t := by
  obtain ⟨hv, nv, fv, cv, mv, T, h1, ⟨hv', nv', fv', he, _, h2, h3, h4⟩, h5, h6, h7⟩ := h
  simp only [List.cons.injEq, and_true, true_and] at he
  obtain ⟨rfl, rfl, rfl⟩ := he
  obtain ⟨a1, c1, rfl, -⟩ := id h2
  obtain ⟨a2, c2, rfl, -⟩ := id h3
  obtain ⟨a3, c3, rfl, -⟩ := id h4
  obtain ⟨a4, c4, rfl, -⟩ := id h5
  obtain ⟨a5, c5, rfl, -⟩ := id h6
  have e1 := arrS_len t
  have e2 := arrN_len t
  rw [e1] at h1 h5
  rw [e2] at h1 h6
  exact ⟨a1, c1, a2, c2, a3, c3, a4, c4, a5, c5, T, h1, h2, h3, h4, h5, h6, h7⟩
/-- The cells of the i-th part of a slice. -/
theorem sl_at {α : Type} {w : World} {k : Nat} {R : World → List Value → α → Prop} {a : Option Addr} {n c : Nat} {l : List α} (h : Sl w k R (.slice a n c) l) {i : Nat} {x : α} (hx : l[i]? = some x) :
    ∃ b o cs, a = some ⟨b, o, none⟩ ∧ cs.length = k ∧ Cells w b (o + i * k) cs ∧ R w cs x ∧ i < n := by
  obtain ⟨a', c', he, hc, hm, hel⟩ := h
  have hi := (List.getElem?_eq_some_iff.1 hx).1
  have hn : n = l.length := by cases he; rfl
  have ha : a = a' := by cases he; rfl
  obtain ⟨b, o, cs, h1, h2, h3, h4⟩ := hel i hi
  have : l[i] = x := (List.getElem?_eq_some_iff.1 hx).2
  rw [this] at h4
  exact ⟨b, o, cs, ha.trans h1, h2, h3, h4, hn ▸ hi⟩
theorem arr_prefix {x : Town} (fs : List (List Int)) (l : List Int) : (fs ++ [l]).foldl (arrStep x) (⟨0, 0⟩, 0) = arrStep x (fs.foldl (arrStep x) (⟨0, 0⟩, 0)) l := by rw [List.foldl_append]; rfl
theorem set_nth {α : Type} {l : List α} {n i : Nat} {A : Nat → α} {Z : α} (hl : l.length = n) (hi : i < n) (h : ∀ j, j < n → l[j]? = some (if j < i then A j else Z)) : ∀ j, j < n → (l.set i (A i))[j]? = some (if j < i + 1 then A j else Z) := by
  intro j hj
  rw [List.getElem?_set]
  by_cases e : i = j
  · subst e; rw [if_pos rfl, if_pos (by omega), if_pos (by omega)]
  · rw [if_neg e, h j hj]
    by_cases h2 : j < i
    · rw [if_pos h2, if_pos (by omega)]
    · rw [if_neg h2, if_neg (by omega)]
theorem set_same {α : Type} {l : List α} {i : Nat} {x : α} (h : l[i]? = some x) : l.set i x = l := by
  apply List.ext_getElem?
  intro j
  rw [List.getElem?_set]
  split
  next e => subst e; rw [h, if_pos (List.getElem?_eq_some_iff.1 h).1]
  next => rfl
theorem list_arr {α : Type} {l : List α} {t : Task} {A : Nat → α} {Z : α} (hl : l.length = t.towns.length) (h : ∀ j, j < t.towns.length → l[j]? = some (if j < t.towns.length then A j else Z)) : l = (List.range t.towns.length).map A := by
  apply List.ext_getElem?
  intro j
  by_cases hj : j < t.towns.length
  · rw [h j hj, if_pos hj]; simp [hj]
  · rw [List.getElem?_eq_none (by omega), List.getElem?_eq_none (by simp; omega)]
theorem encs_blk {α : Type} {enc : α → List Value} {k : Nat} {R : World → List Value → α → Prop} (hk : ∀ x, (enc x).length = k) {w : World} {b : Nat} {T : TypeId} {l : List α} (h : w.heap[b]? = some (.cells (l.flatMap enc).toArray T (0, 0))) (hl : ∀ x ∈ l, R w (enc x) x) (hn : l.length ≤ 1000) : Sl w k R (.slice (some ⟨b, 0, none⟩) l.length l.length) l :=
  ⟨_, _, rfl, Nat.le_refl _, by omega, fun i hi => ⟨b, 0, enc l[i], rfl, hk _, flat_cells hk (blk_cells h) (List.getElem?_eq_getElem hi), hl _ (List.getElem_mem hi)⟩⟩
theorem flat_rep {α : Type} {enc : α → List Value} {z : α} {zs : List Value} (hz : enc z = zs) : ∀ n, (List.replicate n zs).flatten = (List.replicate n z).flatMap enc
  | 0 => rfl
  | n + 1 => by rw [List.replicate_succ, List.flatten_cons, List.replicate_succ, List.flatMap_cons, flat_rep hz n, hz]
theorem board_mk {w : World} {b b1 b2 : Nat} {T T1 T2 : TypeId} {hv nv fv : Value} {t : Task} (hb : w.heap[b]? = some (.cells [.int .i64 t.polders, hv, nv, fv, .slice (some ⟨b1, 0, none⟩) t.towns.length t.towns.length, .slice (some ⟨b2, 0, none⟩) t.towns.length t.towns.length].toArray T (0, 0)))
    (ht : RTask w [.int .i64 t.polders, hv, nv, fv] t) (hok : TaskOk t) (h1 : w.heap[b1]? = some (.cells ((arrS t).flatMap spanC).toArray T1 (0, 0))) (h2 : w.heap[b2]? = some (.cells ((arrN t).flatMap encI).toArray T2 (0, 0))) : RBoard w b t := by
  have hb' : ∀ i : Int, i ∈ idxL t → (0 ≤ (arr t i).1.lo ∧ (arr t i).1.lo ≤ 200500) ∧ (0 ≤ (arr t i).1.hi ∧ (arr t i).1.hi ≤ 200500) ∧ 0 ≤ (arr t i).2 ∧ (arr t i).2 ≤ t.floods.length := fun i hi => arr_bd hok (mem_idxL.1 hi)
  have hn := hok.ntw
  have hf := hok.nfl
  refine ⟨hv, nv, fv, _, _, T, hb, ht, ?_, ?_, hok⟩
  · have := encs_blk (R := RSpan) spanC_len h1 (fun s hs => by
      obtain ⟨i, hi, rfl⟩ := List.mem_map.1 hs
      have := hb' i hi
      exact ⟨rfl, ⟨by omega, by omega⟩, ⟨by omega, by omega⟩⟩) (by rw [arrS_len]; omega)
    rw [arrS_len] at this; exact this
  · have := encs_blk (R := RInt) encI_len h2 (fun s hs => by
      obtain ⟨i, hi, rfl⟩ := List.mem_map.1 hs
      have := hb' i hi
      exact ⟨rfl, ⟨by omega, by omega⟩⟩) (by rw [arrN_len]; omega)
    rw [arrN_len] at this; exact this
theorem arr_list {t : Task} {cl : List Span} (hl : cl.length = t.towns.length) (h : ∀ j, j < t.towns.length → cl[j]? = some (if j < t.towns.length then (arr t (j : Int)).1 else ⟨0, 0⟩)) : cl = arrS t := by
  rw [list_arr hl h]; simp [arrS, idxL]
theorem arr_listN {t : Task} {ml : List Int} (hl : ml.length = t.towns.length) (h : ∀ j, j < t.towns.length → ml[j]? = some (if j < t.towns.length then (arr t (j : Int)).2 else 0)) : ml = arrN t := by
  rw [list_arr hl h]; simp [arrN, idxL]
theorem fold_bd {t : Task} (ht : TaskOk t) {x : Town} (hx : TownOk t x) (k : Nat) : let s := (t.floods.take k).foldl (arrStep x) (⟨0, 0⟩, 0); (0 ≤ s.1.lo ∧ s.1.lo ≤ 200500) ∧ (0 ≤ s.1.hi ∧ s.1.hi ≤ 200500) ∧ 0 ≤ s.2 ∧ s.2 ≤ 8 := by
  have := fold_arr ht hx (t.floods.take k) (fun l hl => List.mem_of_mem_take hl) (⟨0, 0⟩, 0) (by simp)
  have h2 := ht.nfl
  have h3 : (t.floods.take k).length ≤ t.floods.length := by simp; omega
  simp only at this ⊢
  omega
theorem arr_at {t : Task} {i : Nat} {x : Town} (h : t.towns[i]? = some x) : t.floods.foldl (arrStep x) (⟨0, 0⟩, 0) = arr t (i : Int) := by unfold arr arrF; rw [twn_at h]
theorem twn_i {t : Task} {i : Int} (hi : 0 ≤ i ∧ i < t.towns.length) : t.towns[i.toNat]? = some (twn t i) := by
  unfold twn; rw [List.getD_eq_getElem?_getD, List.getElem?_eq_getElem (show i.toNat < t.towns.length by omega)]; rfl
theorem chn_i {t : Task} {i : Int} (hi : 0 ≤ i ∧ i < t.chans.length) : t.chans[i.toNat]? = some (chn t i) := by
  unfold chn; rw [List.getD_eq_getElem?_getD, List.getElem?_eq_getElem (show i.toNat < t.chans.length by omega)]; rfl
theorem arrS_i {t : Task} {i : Int} (hi : 0 ≤ i ∧ i < t.towns.length) : (arrS t)[i.toNat]? = some (arr t i).1 := by
  have := arrS_get (t := t) (i := i.toNat) (by omega)
  rw [this, show ((i.toNat : Nat) : Int) = i by omega]
theorem arrN_i {t : Task} {i : Int} (hi : 0 ≤ i ∧ i < t.towns.length) : (arrN t)[i.toNat]? = some (arr t i).2 := by
  have := arrN_get (t := t) (i := i.toNat) (by omega)
  rw [this, show ((i.toNat : Nat) : Int) = i by omega]
theorem ofE_ok {t : Task} {i : Int} (h : ofE t i = 0) : TaskOk t ∧ 0 ≤ i ∧ i < t.towns.length := by
  unfold ofE at h
  split at h
  next h1 => exact absurd h h1
  next h1 =>
    split at h
    next => cases h
    next h2 =>
      simp only [Bool.not_eq_true, outB_false] at h2
      exact ⟨task_ok (by simpa using h1), by omega, by omega⟩
theorem atE_ok {t : Task} {now : Int} (h : atE t now = 0) : TaskOk t ∧ 0 ≤ now ∧ now ≤ 200000 := by
  unfold atE at h
  split at h
  next h1 => exact absurd h h1
  next h1 =>
    split at h
    next => cases h
    next h2 =>
      simp only [Bool.not_eq_true, outB_false] at h2
      exact ⟨task_ok (by simpa using h1), by omega, by omega⟩
theorem set_at {α : Type} {l : List α} {i : Nat} {x : α} (h : i < l.length) : (l.set i x)[i]? = some x := by simp [h]
end Bx

/- part A12 -/
namespace Bx
open Go Go.RowKit
def encSt (s : Seat) : Value := .agg #[.int .i64 s.1, .int .i64 s.2.1, .int .i64 s.2.2]
theorem encSt_inj (a b : Seat) (h : encSt a = encSt b) : a = b := by
  obtain ⟨a1, a2, a3⟩ := a
  obtain ⟨b1, b2, b3⟩ := b
  simp only [encSt, Value.agg.injEq, Array.mk.injEq, List.cons.injEq, Value.int.injEq, and_true, true_and] at h
  obtain ⟨rfl, rfl, rfl⟩ := h
  rfl
/-- What the yield of places hands over. -/
def plcC (x : Int × Int) : List Value := [.agg [.int .i64 x.1, .int .i64 x.2, .int .i64 0].toArray]
end Bx
namespace Go.Proofs.YtmoilbakmlekbaaGreatDoor
open Go Bx
variable {w : World}
theorem eqIn115 {a0 b0 a1 b1 a2 b2 : Int} : (Op.equalIn 10000 115 (.agg #[.int .i64 a0, .int .i64 a1, .int .i64 a2]) (.agg #[.int .i64 b0, .int .i64 b1, .int .i64 b2])).run Tryz.prog w = .ok (decide (a0 = b0) && (decide (a1 = b1) && decide (a2 = b2))) w := by
  have u3 := Tryz.underlying3
  have z3 := Tryz.sizeOf3
  have g3 := Tryz.isAgg3
  rw [show (10000 : Nat) = 9999 + 1 from rfl, run_equalIn_agg w 9999 115 _ _ (by kernel_rfl) (by kernel_rfl)]
  simp only [Program.fieldsOf, Tryz.underlying115]
  go_simp
  by_cases h0 : a0 = b0 <;> by_cases h1 : a1 = b1 <;> by_cases h2 : a2 = b2 <;> simp [h0, h1, h2]
theorem chkS (e : Bool) (p : Seat) (w : World) : (Instr.checkKey e 10000 115 (encSt p)).run Tryz.prog w = .ok () w := by
  have u3 := Tryz.underlying3
  have z3 := Tryz.sizeOf3
  have g3 := Tryz.isAgg3
  show (Instr.checkKey e (9999 + 1) 115 (encSt p)).run Tryz.prog w = _
  rw [Instr.checkKey]
  simp only [encSt, Sem.run_bind, run_underlying Tryz.underlying115, Result.andThen_ok]
  go_simp
  have hi : ∀ (a : Int) (w : World), (Instr.checkKey e 9999 3 (.int .i64 a)).run Tryz.prog w = .ok () w := fun a w => by
    show (Instr.checkKey e (9998 + 1) 3 (.int .i64 a)).run Tryz.prog w = _
    rw [Instr.checkKey]
    simp only [Sem.run_bind, run_underlying Tryz.underlying3, Result.andThen_ok]
    rfl
  simp only [hi, Result.andThen_ok]
theorem keyS : KeyI Tryz.prog 115 encSt := by
  refine ⟨KeyFn.struct Tryz.underlying115 (fun a b w => ?_) chkS (fun a => ?_), encSt_inj⟩
  · show (Op.equalIn 10000 115 (encSt a) (encSt b)).run _ _ = _
    obtain ⟨a0, a1, a2⟩ := a
    obtain ⟨b0, b1, b2⟩ := b
    rw [encSt, encSt, eqIn115]
    by_cases h0 : a0 = b0 <;> by_cases h1 : a1 = b1 <;> by_cases h2 : a2 = b2 <;> simp [h0, h1, h2]
  · simp [encSt, Instr.sameBits]
theorem keyI3 : KeyI Tryz.prog 3 (Value.int .i64) := KeyOk.fnI (keyInt Tryz.underlying3)
end Go.Proofs.YtmoilbakmlekbaaGreatDoor

/- part A13 -/
namespace Bx
open Go Go.RowKit
section
variable {P : Program} {ops : Array Oper} {Q : Exit → Act → World → Prop} {n : Nat} {f : Fr} {w w0 : World} {S : List Nat} {rest : List Oper} {d : Nat} {ty : TypeId} {pos : String} {af : Array Edge}
/-- A guarded operation that is not wanted. -/
theorem ungn {op : Op} {j dj : Nat} {want : Bool} {v : Value} (hd : dstOf ops j = some dj) (hn : Nat.blt dj n = true) (hb : f dj = v) (hv : v ≠ .bool want) (h : wpL P ops Q n rest (upd f d undef) w) : wpL P ops Q n (⟨some d, op, ty, pos, af, some (j, want)⟩ :: rest) f w :=
  wpL_guard (G := False) (v := undef) hd hn ⟨False.elim, fun e => hv (hb.symm.trans e)⟩ (fun g => g.elim) fun v' c => by rw [c.2 id]; exact h
theorem StX.fr {A B L : List Item} (h : StX S w0 w (A ++ (B ++ L))) : StX S w0 w (B ++ (A ++ L)) := by
  refine h.perm ?_
  rw [← List.append_assoc, ← List.append_assoc]
  exact List.perm_append_comm.append_right L
end
theorem StX.mv3 {S : List Nat} {w0 w : World} {x y a : Item} {B L : List Item} (h : StX S w0 w (x :: y :: a :: (B ++ L))) : StX S w0 w (x :: y :: (B ++ a :: L)) :=
  h.perm (.cons _ (.cons _ List.perm_middle.symm))
theorem yLookFOk' {P : Program} {ρ : Operand → Value} {w : World} {ty : TypeId} {κ ν : Type} [DecidableEq κ] {enc : κ → Value} {dec : ν → Value} {F : κ → Option ν} {b : Nat} {T K E : TypeId} {k : κ} {z v : Value} {xm xk : Operand} {o : Option ν} {bs : Bool} (ho : F k = o) (hv : (o.map dec).getD z = v) (hs : bs = o.isSome) (hm : ρ xm = .map (some b)) (hx : ρ xk = enc k) (hT : ∀ w, (underlying T).run P w = .ok (.map K E) w) (hk : KeyI P K enc) (hz : ∀ w, (zeroValue E).run P w = .ok z w) (hb : ∃ o, w.heap[b]? = some o ∧ MapP enc dec F o) :
    Y P ρ (.lookup T xm xk true) ty w (.tuple #[v, .bool bs]) w := by
  subst ho hs
  exact yLookFOk hm hx hT hk hz hb hv
theorem not_ne {b c : Bool} (h : b = c) : Value.bool (!b) ≠ .bool c := by subst h; cases b <;> simp
theorem not_is {b c d : Bool} (h : b = c) (hd : (!c) = d) : Value.bool (!b) = .bool d := by subst h hd; rfl
def trF {κ : Type} (p : κ → Bool) : κ → Option Bool := fun k => if p k = true then some true else none
theorem tr_look {κ : Type} (p : κ → Bool) (k : κ) : ((trF p k).map Value.bool).getD (.bool false) = .bool (p k) := by
  unfold trF
  cases h : p k <;> simp
theorem tr_set {κ : Type} [DecidableEq κ] (p : κ → Bool) (k : κ) : fset (trF p) k (some true) = trF (fset p k true) := by
  funext x
  unfold fset trF
  by_cases h : x = k <;> simp [h]
theorem tr_del {κ : Type} [DecidableEq κ] (p : κ → Bool) (k : κ) : fdel (trF p) k = trF (fset p k false) := by
  funext x
  unfold fset fdel trF
  by_cases h : x = k <;> simp [h]
theorem tr_nil {κ : Type} : (fun _ : κ => (none : Option Bool)) = trF fun _ => false := by funext x; simp [trF]
def Vld (t : Task) (tk : Seat → Option Int) : Prop := ∀ s o, tk s = some o → 0 ≤ o ∧ o < t.towns.length
theorem vld_put {t : Task} {tk : Seat → Option Int} (h : Vld t tk) {i : Int} (hi : 0 ≤ i ∧ i < t.towns.length) (s : Seat) : Vld t (fset tk s (some i)) := fun x o hx => by
  unfold fset at hx
  split at hx
  · cases hx; exact hi
  · exact h x o hx
theorem vld_del {t : Task} {tk : Seat → Option Int} (h : Vld t tk) (s : Seat) : Vld t (fdel tk s) := fun x o hx => by
  unfold fdel at hx
  split at hx
  · cases hx
  · exact h x o hx
theorem goF_vld {t : Task} {fx : Int → Bool} {rec : Int → Mst → Bool × Mst} (hr : ∀ (o : Int) st, 0 ≤ o ∧ o < t.towns.length → Vld t st.taken → Vld t (rec o st).2.taken) {i : Int} (hi : 0 ≤ i ∧ i < t.towns.length) : ∀ (l : List Seat) (st : Mst), Vld t st.taken → Vld t (goF fx rec i l st).2.taken
  | [], _, h => h
  | s :: l, st, h => by
    by_cases h0 : st.tried s = true
    · rw [goF_skip h0]; exact goF_vld hr hi l st h
    · have h' : st.tried s = false := by simpa using h0
      cases ht : st.taken s with
      | none => rw [goF_free h' ht]; exact vld_put h hi s
      | some o =>
        cases hf : fx o with
        | true => rw [goF_fix h' ht hf]; exact goF_vld hr hi l _ h
        | false =>
          have h1 := hr o (st.mark s) (h s o ht) h
          cases hq : (rec o (st.mark s)).1 with
          | true => rw [goF_yes h' ht hf hq]; exact vld_put h1 hi s
          | false => rw [goF_no h' ht hf hq]; exact goF_vld hr hi l _ h1
theorem moveF_vld {t : Task} {fx : Int → Bool} {sl : Int → List Seat} : ∀ (n : Nat) (i : Int) (st : Mst), 0 ≤ i ∧ i < t.towns.length → Vld t st.taken → Vld t (moveF fx sl n i st).2.taken
  | 0, _, _, _, h => h
  | n + 1, i, st, hi, h => goF_vld (fun o st ho hv => moveF_vld n o st ho hv) hi (sl i) st h
theorem chan_mem {t : Task} (ht : TaskOk t) {i c : Int} (h : c ∈ (twn t i).chans) : 0 ≤ c ∧ c < t.chans.length := by
  by_cases hi : i.toNat < t.towns.length
  · have : twn t i = t.towns[i.toNat] := by unfold twn; simp [List.getD, hi]
    rw [this] at h
    exact (ht.town _ (List.getElem_mem hi)).chans c h
  · have : twn t i = ⟨⟨#[]⟩, 0, 0, 0, []⟩ := by unfold twn; simp [List.getD, hi]
    rw [this] at h; cases h
theorem chans_chL {t : Task} (ht : TaskOk t) (now : Int) : ∀ i, ∀ c ∈ (plT t now).chans i, c ∈ chL t := fun i c hc => mem_chL.2 (chan_mem ht hc)
theorem plc_chan {t : Task} (ht : TaskOk t) {now i : Int} {x : Int × Int} (h : x ∈ (plT t now).places i) : 0 ≤ x.1 ∧ x.1 < t.chans.length := chan_mem ht (mem_places.1 h).1
theorem nums_drop {t : Task} {now : Int} {x : Int × Int} {k : Nat} (h : (k : Int) < (chn t x.1).room) : ((plT t now).nums x).drop k = (x.1, x.2, (k : Int)) :: ((plT t now).nums x).drop (k + 1) := by
  have hl : ((plT t now).nums x).length = (chn t x.1).room.toNat := by simp [Pl.nums, plT]
  have hk : k < ((plT t now).nums x).length := by omega
  rw [List.drop_eq_getElem_cons hk]
  congr 1
  simp [Pl.nums]
theorem nums_done {t : Task} {now : Int} {x : Int × Int} {k : Nat} (h : ¬ (k : Int) < (chn t x.1).room) : ((plT t now).nums x).drop k = [] := by
  rw [List.drop_eq_nil_iff]
  simp [Pl.nums, plT]; omega
abbrev UU (t : Task) (now : Int) : List Seat := (plT t now).all (chL t)
theorem seat_UU {t : Task} (ht : TaskOk t) {now i : Int} {x : Int × Int} (hx : x ∈ (plT t now).places i) {k : Nat} (h : (k : Int) < (chn t x.1).room) : ((x.1, x.2, (k : Int)) : Seat) ∈ UU t now :=
  sl_allC (chans_chL ht now) i _ (sl_of hx (mem_nums.2 ⟨rfl, rfl, by simp, h⟩))
/-- The places of the first ticks. -/
def plcP (t : Task) (now i : Int) (d : Nat) : List (Int × Int) := (List.range d).flatMap fun (e : Nat) => (plT t now).at i (now + (e : Int)) (twn t i).chans
theorem plcP_succ (t : Task) (now i : Int) (d : Nat) : plcP t now i (d + 1) = plcP t now i d ++ (plT t now).at i (now + (d : Int)) (twn t i).chans := by
  unfold plcP; rw [List.range_succ, List.flatMap_append]; simp
theorem plcP_all (t : Task) (now i : Int) : plcP t now i (wetL t).length = (plT t now).places i := rfl
theorem at_in {t : Task} {now i sent : Int} {l : List Int} {k : Nat} {c : Int} (h : l[k]? = some c) (hs : sent ≤ latestF t i c) : (plT t now).at i sent (l.take (k + 1)) = (plT t now).at i sent (l.take k) ++ [(c, sent)] := by
  unfold Pl.at
  rw [take_snoc h, List.filter_append, List.map_append, List.filter_cons_of_pos (p := fun c => decide (sent ≤ (plT t now).latest i c)) (decide_eq_true hs)]; rfl
theorem at_out {t : Task} {now i sent : Int} {l : List Int} {k : Nat} {c : Int} (h : l[k]? = some c) (hs : ¬ sent ≤ latestF t i c) : (plT t now).at i sent (l.take (k + 1)) = (plT t now).at i sent (l.take k) := by
  unfold Pl.at
  rw [take_snoc h, List.filter_append, List.map_append, List.filter_cons_of_neg (p := fun c => decide (sent ≤ (plT t now).latest i c)) (fun h => hs (of_decide_eq_true h))]; simp
theorem at_pre (t : Task) (now i sent : Int) (l : List Int) (k : Nat) : (plT t now).at i sent (l.take k) <+: (plT t now).at i sent l := by
  unfold Pl.at
  exact ((List.take_prefix k l).filter _).map _
theorem plcP_pre {t : Task} {now i : Int} {d m : Nat} (h : d ≤ m) : plcP t now i d <+: plcP t now i m := by
  induction m with
  | zero =>
    obtain rfl : d = 0 := by omega
    exact List.prefix_refl _
  | succ m ih =>
    rcases Nat.lt_or_ge m d with h1 | h1
    · obtain rfl : d = m + 1 := by omega
      exact List.prefix_refl _
    · rw [plcP_succ]; exact (ih h1).trans (List.prefix_append _ _)
theorem plc_pre {t : Task} {now i : Int} {d k : Nat} {c : Int} (hd : d < (wetL t).length) (hc : (twn t i).chans[k]? = some c) (hs : now + (d : Int) ≤ latestF t i c) : (plcP t now i d ++ (plT t now).at i (now + (d : Int)) ((twn t i).chans.take k)) ++ [(c, now + (d : Int))] <+: (plT t now).places i := by
  rw [List.append_assoc, ← at_in hc hs]
  refine List.IsPrefix.trans ?_ (plcP_all t now i ▸ plcP_pre (show d + 1 ≤ (wetL t).length by omega))
  rw [plcP_succ]
  exact (List.prefix_append_right_inj _).2 (at_pre t now i _ _ _)
/-- What is read of a plan at b: the board, the tick now, the towns. -/
def PlRd (b bb : Nat) (now : Int) (tv : Value) (w : World) : Prop := w.cell? ⟨b, 0, none⟩ = some (.pointer (some ⟨bb, 0, none⟩)) ∧ w.cell? ⟨b, 1, none⟩ = some (.int .i64 now) ∧ w.cell? ⟨b, 2, none⟩ = some tv
theorem plRd_of {w : World} {b bb : Nat} {now : Int} {tv v3 v4 : Value} {T : TypeId} (h : w.heap[b]? = some (.cells [.pointer (some ⟨bb, 0, none⟩), .int .i64 now, tv, v3, v4].toArray T (0, 0))) : PlRd b bb now tv w := ⟨cell_of h rfl, cell_of h rfl, cell_of h rfl⟩
theorem look3 (x : Option Int) (fx : Int → Bool) : x = none ∨ (∃ o, x = some o ∧ fx o = false) ∨ ∃ o, x = some o ∧ fx o = true := by
  cases x with
  | none => exact .inl rfl
  | some o => cases h : fx o with
    | false => exact .inr (.inl ⟨o, rfl, h⟩)
    | true => exact .inr (.inr ⟨o, rfl, h⟩)
theorem moveF_succ (fx : Int → Bool) (sl : Int → List Seat) (n : Nat) (i : Int) (st : Mst) : moveF fx sl (n + 1) i st = goF fx (moveF fx sl n) i (sl i) st := rfl
theorem goF_nil (fx : Int → Bool) (rec : Int → Mst → Bool × Mst) (i : Int) (st : Mst) : goF fx rec i [] st = (false, st) := rfl
section
variable {κ ν : Type} [DecidableEq κ]
def leftN (m : List (Tri κ ν)) (seen : List Nat) : Nat := (m.filter fun x => !seen.contains x.2.2).length
theorem leftN_less {m : List (Tri κ ν)} {seen : List Nat} {x : Tri κ ν} (hx : x ∈ m) (hs : x.2.2 ∉ seen) : leftN m (seen ++ [x.2.2]) < leftN m seen := by
  unfold leftN
  have key : ∀ l : List (Tri κ ν), (l.filter fun y => !(seen ++ [x.2.2]).contains y.2.2).length ≤ (l.filter fun y => !seen.contains y.2.2).length := by
    intro l
    induction l with
    | nil => exact Nat.le_refl _
    | cons y l ih =>
      by_cases h1 : y.2.2 ∈ seen
      · rw [List.filter_cons_of_neg (by simp [h1]), List.filter_cons_of_neg (by simp [h1])]; exact ih
      · by_cases h2 : y.2.2 = x.2.2
        · rw [List.filter_cons_of_neg (by simp [h2]), List.filter_cons_of_pos (by simpa using h1)]; simp only [List.length_cons]; omega
        · rw [List.filter_cons_of_pos (by simp [h1, h2]), List.filter_cons_of_pos (by simpa using h1)]; simp only [List.length_cons]; omega
  induction m with
  | nil => cases hx
  | cons y l ih =>
    rcases List.mem_cons.1 hx with rfl | hx
    · rw [List.filter_cons_of_neg (by simp), List.filter_cons_of_pos (by simpa using hs)]
      have := key l
      simp only [List.length_cons]; omega
    · have := ih hx
      by_cases h1 : y.2.2 ∈ seen
      · rw [List.filter_cons_of_neg (by simp [h1]), List.filter_cons_of_neg (by simp [h1])]; exact this
      · by_cases h2 : y.2.2 = x.2.2
        · rw [List.filter_cons_of_neg (by simp [h2]), List.filter_cons_of_pos (by simpa using h1)]; simp only [List.length_cons]; omega
        · rw [List.filter_cons_of_pos (by simp [h1, h2]), List.filter_cons_of_pos (by simpa using h1)]; simp only [List.length_cons]; omega
/-- What is copied so far. -/
def Cpy (F : κ → Option ν) (m : List (Tri κ ν)) (seen : List Nat) (G : κ → Option ν) : Prop := (∀ k v, G k = some v → F k = some v) ∧ ∀ x ∈ m, x.2.2 ∈ seen → G x.1 = some x.2.1
theorem Cpy.nil (F : κ → Option ν) (m : List (Tri κ ν)) : Cpy F m [] fun _ => none := ⟨fun _ _ h => (nomatch h), fun _ _ h => (nomatch h)⟩
theorem Cpy.step {F G : κ → Option ν} {m : List (Tri κ ν)} {seen : List Nat} (hk : (m.map (·.1)).Nodup) (hb : (m.map (·.2.2)).Nodup) (hf : ∀ k, asc m k = F k) (h : Cpy F m seen G) {x : Tri κ ν} (hx : x ∈ m) : Cpy F m (seen ++ [x.2.2]) (fset G x.1 (some x.2.1)) := by
  have hF : F x.1 = some x.2.1 := by rw [← hf]; exact (asc_mem hk).2 ⟨x.2.2, hx⟩
  refine ⟨fun k v hv => ?_, fun y hy hs => ?_⟩
  · unfold fset at hv
    split at hv
    next e => rw [e, hF]; exact hv
    next => exact h.1 k v hv
  · unfold fset
    split
    next e =>
      have hy' : F y.1 = some y.2.1 := by rw [← hf]; exact (asc_mem hk).2 ⟨y.2.2, hy⟩
      rw [e, hF] at hy'
      exact hy'
    next e =>
      rcases List.mem_append.1 hs with hs | hs
      · exact h.2 y hy hs
      · exfalso
        have hs := List.mem_singleton.1 hs
        exact e (by
          clear hf h hF
          induction m with
          | nil => cases hx
          | cons z m ih =>
            rw [List.map_cons, List.nodup_cons] at hk hb
            rcases List.mem_cons.1 hx with rfl | hx'
            · rcases List.mem_cons.1 hy with rfl | hy'
              · rfl
              · exact absurd (List.mem_map.2 ⟨y, hy', hs⟩) hb.1
            · rcases List.mem_cons.1 hy with rfl | hy'
              · exact absurd (List.mem_map.2 ⟨x, hx', hs.symm⟩) hb.1
              · exact ih hk.2 hb.2 hx' hy')
theorem Cpy.all {F G : κ → Option ν} {m : List (Tri κ ν)} {seen : List Nat} (hk : (m.map (·.1)).Nodup) (hf : ∀ k, asc m k = F k) (h : Cpy F m seen G) (hs : ∀ y ∈ m, y.2.2 ∈ seen) : G = F := by
  funext k
  cases hF : F k with
  | none =>
    cases hG : G k with
    | none => rfl
    | some v => rw [h.1 k v hG] at hF; cases hF
  | some v =>
    obtain ⟨b, hb⟩ := (asc_mem hk).1 ((hf k).trans hF)
    exact h.2 _ hb (hs _ hb)
end
theorem StX.facts {κ ν : Type} [DecidableEq κ] {enc : κ → Value} {dec : ν → Value} {F : κ → Option ν} {m : List (Tri κ ν)} {c : Nat} {S : List Nat} {w0 w : World} {L : List Item} (h : StX S w0 w L) (b : Nat) [i : AtB L b (MapS enc dec F m c)] : (m.map (·.1)).Nodup ∧ (m.map (·.2.2)).Nodup ∧ ∀ k, asc m k = F k := by
  obtain ⟨o, h1, h2⟩ := h.is b
  exact ⟨h2.keys, h2.born, h2.fn⟩
theorem try_none {P : Pl} {n : Nat} {i : Int} {p : Pst} {s : Seat} {l : List Seat} (h : p.taken s = none) : P.try n i p (s :: l) = (true, (p.free i).sit s i) := by rw [Pl.try, h]
theorem try_fix {P : Pl} {n : Nat} {i o : Int} {p : Pst} {s : Seat} {l : List Seat} (h : p.taken s = some o) (hf : p.fixed o = true) : P.try n i p (s :: l) = P.try n i p l := by rw [Pl.try, h]; exact if_pos hf
theorem try_own {P : Pl} {n : Nat} {i o : Int} {p : Pst} {s : Seat} {l : List Seat} (h : p.taken s = some o) (hf : p.fixed o = false) (ho : o = i) : P.try n i p (s :: l) = (true, (p.free i).sit s i) := by rw [Pl.try, h]; exact (if_neg (by rw [hf]; decide)).trans (if_pos ho)
theorem try_set {P : Pl} {n : Nat} {i o : Int} {p q : Pst} {s : Seat} {l : List Seat} {r : Bool × Mst} (h : p.taken s = some o) (hf : p.fixed o = false) (ho : ¬ o = i) (hq : ((p.free i).free o).sit s i = q) (hr : P.settle n q.fixed o q.taken q.seats = r) :
    P.try n i p (s :: l) = if r.1 = true then (true, ⟨r.2.taken, r.2.seats, q.fixed⟩) else (false, { p with fixed := fset p.fixed i false }) := by
  subst hq hr
  rw [Pl.try, h]; exact (if_neg (by rw [hf]; decide)).trans (if_neg ho)
theorem try_nil {P : Pl} {n : Nat} {i : Int} {p : Pst} : P.try n i p [] = (false, p) := rfl
theorem fset_fset {κ ν : Type} [DecidableEq κ] (f : κ → ν) (k : κ) (a b : ν) : fset (fset f k a) k b = fset f k b := by
  funext x; unfold fset; by_cases h : x = k <;> simp [h]
theorem seat_val (o : Option Seat) : (o.map encSt).getD (encSt (0, 0, 0)) = encSt (o.getD (0, 0, 0)) := by cases o <;> rfl
theorem look4 (x : Option Int) (fx : Int → Bool) (i : Int) : x = none ∨ (∃ o, x = some o ∧ fx o = true) ∨ (∃ o, x = some o ∧ fx o = false ∧ o = i) ∨ ∃ o, x = some o ∧ fx o = false ∧ ¬ o = i := by
  cases x with
  | none => exact .inl rfl
  | some o => cases h : fx o with
    | true => exact .inr (.inl ⟨o, rfl, h⟩)
    | false =>
      by_cases e : o = i
      · exact .inr (.inr (.inl ⟨o, rfl, h, e⟩))
      · exact .inr (.inr (.inr ⟨o, rfl, h, e⟩))
theorem StX.rev3 {S : List Nat} {w0 w : World} {x y z : Item} {L : List Item} (h : StX S w0 w (x :: y :: z :: L)) : StX S w0 w (z :: y :: x :: L) := by
  refine h.perm ?_
  exact (List.Perm.cons x (List.Perm.swap z y L)).trans ((List.Perm.swap z x (y :: L)).trans (List.Perm.cons z (List.Perm.swap y x L)))
theorem vld_free {t : Task} {p : Pst} (h : Vld t p.taken) (i : Int) : Vld t (p.free i).taken := vld_del h _
def slotC (s : Slot) : List Value := [.int .i64 s.town, .int .i64 s.channel, .int .i64 s.sent]
theorem slotC_len (s : Slot) : (slotC s).length = 3 := rfl
theorem room_le {t : Task} (ht : TaskOk t) (c : Int) : 0 ≤ (chn t c).room ∧ (chn t c).room ≤ 20 := by
  by_cases hc : c.toNat < t.chans.length
  · have : chn t c = t.chans[c.toNat] := by unfold chn; simp [List.getD, hc]
    rw [this]; exact (ht.chan _ (List.getElem_mem hc)).2.2
  · have : chn t c = ⟨⟨#[]⟩, 0, 0⟩ := by unfold chn; simp [List.getD, hc]
    rw [this]; exact ⟨by decide, by decide⟩
theorem fuel_UU {t : Task} (ht : TaskOk t) (now : Int) : (UU t now).length < fuelT t := by
  have := all_len (P := plT t now) (C := chL t) (fun c => (room_le ht c).2)
  have e : (chL t).length = t.chans.length := by simp [chL]
  rw [e] at this
  show ((plT t now).all (chL t)).length < _
  unfold fuelT
  exact Nat.lt_succ_of_le this
theorem vld_settle {t : Task} {now : Int} {n : Nat} {i : Int} {fx : Int → Bool} {tk : Seat → Option Int} {st : Int → Option Seat} (h : Vld t tk) (hi : 0 ≤ i ∧ i < t.towns.length) : Vld t ((plT t now).settle n fx i tk st).2.taken := moveF_vld n i ⟨fun _ => false, tk, st⟩ hi h
theorem vld_try {t : Task} {now : Int} {n : Nat} {i : Int} (hi : 0 ≤ i ∧ i < t.towns.length) : ∀ {l : List Seat} {p : Pst}, Vld t p.taken → Vld t ((plT t now).try n i p l).2.taken
  | [], _, h => h
  | s :: l, p, h => by
    rcases look4 (p.taken s) p.fixed i with ht | ⟨o, ht, hf⟩ | ⟨o, ht, hf, hoi⟩ | ⟨o, ht, hf, hoi⟩
    · rw [try_none ht]; exact vld_put (vld_free h i) hi s
    · rw [try_fix ht hf]; exact vld_try hi h
    · rw [try_own ht hf hoi]; exact vld_put (vld_free h i) hi s
    · rw [try_set ht hf hoi rfl rfl]
      split
      · exact vld_settle (vld_put (vld_free (vld_free h i) o) hi s) (h s o ht)
      · exact h
theorem marks_in {S : List Nat} {w0 w : World} {D : Nat} {Ds : List Nat} {x : Item} {L : List Item} (h : StX S w0 w (obj D (.deferred (some [])) :: x :: packI (marks Ds) :: L)) : StX S w0 w (x :: packI (marks (D :: Ds)) :: L) := by
  have h1 : StX S w0 w (obj D (.deferred (some [])) :: packI (marks Ds) :: x :: L) := h.perm ((List.Perm.swap _ _ _).cons _)
  exact h1.mark.perm (List.Perm.swap _ _ _)
end Bx

/- part Aw1 -/
namespace Go.Proofs.YtmoilbakmlekbaaGreatDoor
open Go Bx
/-- barrage/alarm.out -/
theorem c_out {a lo hi : Int} {w0 : World} : CV Tryz.prog 52 #[.int .i64 a, .int .i64 lo, .int .i64 hi] w0 (.bool (outB a lo hi)) := by
  refine enter Tryz.func52 rfl Tryz.ntmps52 rfl ?_
  have hS := St.start w0
  refine seq ?_
  refine region ?_
  refine sv (yAsg rfl) ?_
  refine nil ?_
  show Code.wp _ _ _ _ _
  refine seq ?_
  refine region ?_
  refine sv (yMove rfl) ?_
  refine sv (yMove rfl) ?_
  refine sv (yLss rfl rfl) ?_
  refine sv (yMove rfl) ?_
  refine sg rfl rfl rfl (fun g => (yMove rfl)) (fun v11 g11 => ?_)
  refine sg rfl rfl rfl (fun g => (yMove rfl)) (fun v12 g12 => ?_)
  refine sg rfl rfl rfl (fun g => (yGtr (g11.1 g) (g12.1 g))) (fun v13 g13 => ?_)
  refine sv (yOr rfl rfl (fun hB => (g13.1 hB))) ?_
  refine sv (yAsg rfl) ?_
  refine nil ?_
  show Code.wp _ _ _ _ _
  refine wp_ret ?_
  exact retV (res1 rfl rfl) hS.ext
/-- barrage/tide.Name -/
theorem c_Name {s : ByteArray} {w0 : World} (hs : s.size ≤ 9223372036854775807) : CV Tryz.prog 106 #[.string s] w0 (.bool (isName s)) := by
  refine enter Tryz.func106 rfl Tryz.ntmps106 rfl ?_
  have hS := St.start w0
  refine seq ?_
  refine region ?_
  refine sv (yAsg rfl) ?_
  refine nil ?_
  show Code.wp _ _ _ _ _
  refine seq ?_
  refine seq ?_
  refine region ?_
  refine sv (yMove rfl) ?_
  refine sv (yLenS rfl Tryz.underlying9) ?_
  refine sv (yMove rfl) ?_
  refine nil ?_
  show Code.wp _ _ _ _ _
  refine block ?_
  refine loop (fun f w zz => ∃ (k : Nat), f 0 = .string s ∧ f 6 = .int .i64 (s.size : Int) ∧ f 7 = .int .i64 (k : Int) ∧ StX [] w0 w [] ∧ (k ≤ s.size) ∧ (∀ i, i < k → okAt s i) ∧ zz = s.size - k) _ ⟨_, rfl, 0, rfl, rfl, rfl, hS, (Nat.zero_le _), (fun i hi => absurd hi (Nat.not_lt_zero i)), rfl⟩ ?_
  clear hS
  rintro f w _ ⟨k, h0, h6, h7, hS, hk, hP, rfl⟩
  refine seq ?_
  refine region ?_
  refine sv (yLss h7 h6) ?_
  refine nil ?_
  show Code.wp _ _ _ _ _
  refine seq ?_
  refine cond rfl (fun c8 => ?_) (fun c8 => ?_)
  ·
    simp only [BS, ne_eq] at c8
    refine skip ?_
    show Code.wp _ _ _ _ _
    refine seq ?_
    refine block ?_
    refine seq ?_
    refine region ?_
    refine sv (yMove h7) ?_
    refine sv (yAsg rfl) ?_
    refine nil ?_
    show Code.wp _ _ _ _ _
    refine seq ?_
    refine region ?_
    refine sv (yMove h0) ?_
    refine sv (yMove rfl) ?_
    refine sv (yIxS rfl rfl Tryz.underlying9 (getElem?_pos s k (by omega))) ?_
    refine sv (yAsg rfl) ?_
    refine nil ?_
    show Code.wp _ _ _ _ _
    refine block ?_
    refine seq ?_
    refine region ?_
    refine sv (yMove rfl) ?_
    refine sv (yLeq rfl rfl) ?_
    refine sv (yMove rfl) ?_
    refine sg rfl rfl rfl (fun g => (yMove rfl)) (fun v17 g17 => ?_)
    refine sg rfl rfl rfl (fun g => (yLeq (g17.1 g) rfl)) (fun v18 g18 => ?_)
    refine sv (yAnd rfl (fun hB => (g18.1 hB)) rfl) ?_
    refine sv (yAsg rfl) ?_
    refine nil ?_
    show Code.wp _ _ _ _ _
    refine cond rfl (fun c13 => ?_) (fun c13 => ?_)
    ·
      simp only [BS, ne_eq] at c13
      refine skip ?_
      show Code.wp _ _ _ _ _
      refine region ?_
      refine sv (yAdd h7 rfl ⟨by omega, by omega⟩) ?_
      refine sv (yMove rfl) ?_
      refine nil ?_
      exact ⟨_, _, rfl, ⟨k + 1, h0, h6, rfl, hS, (by omega), (snoc hP ((okAt_of s k (by omega)).2 (by omega))), rfl⟩, by omega⟩
    ·
      simp only [BS, ne_eq] at c13
      refine seq ?_
      refine region ?_
      refine sv (yMove rfl) ?_
      refine sv (yGtr rfl rfl) ?_
      refine sv (yMove rfl) ?_
      refine sg rfl rfl rfl (fun g => (yMove rfl)) (fun v24 g24 => ?_)
      refine sg rfl rfl rfl (fun g => (yEql (g24.1 g) rfl)) (fun v25 g25 => ?_)
      refine sg rfl rfl rfl (fun g => (yMove (g25.1 g))) (fun v26 g26 => ?_)
      refine sgg rfl rfl g26 (fun g => (yMove rfl)) (fun v27 g27 => ?_)
      refine sgg rfl rfl g26 (fun g => (yLeq rfl (g27.1 g))) (fun v28 g28 => ?_)
      refine sgg rfl rfl g26 (fun g => (yMove (g28.1 g))) (fun v29 g29 => ?_)
      refine sgg rfl rfl g29 (fun g => (yMove rfl)) (fun v30 g30 => ?_)
      refine sgg rfl rfl g29 (fun g => (yLeq (g30.1 g) rfl)) (fun v31 g31 => ?_)
      refine sgg rfl rfl g26 (fun g => (yAnd (g29.1 g) (fun hB => (g31.1 ⟨g, hB⟩)) rfl)) (fun v32 g32 => ?_)
      refine sg rfl rfl rfl (fun g => (yOr (g26.1 g) rfl (fun hB => (g32.1 ⟨g, hB⟩)))) (fun v33 g33 => ?_)
      refine sv (yAnd rfl (fun hB => (g33.1 hB)) rfl) ?_
      refine sv (yAsg rfl) ?_
      refine nil ?_
      show Code.wp _ _ _ _ _
      refine cond rfl (fun c20 => ?_) (fun c20 => ?_)
      ·
        simp only [BS, ne_eq] at c20
        refine skip ?_
        show Code.wp _ _ _ _ _
        refine region ?_
        refine sv (yAdd h7 rfl ⟨by omega, by omega⟩) ?_
        refine sv (yMove rfl) ?_
        refine nil ?_
        exact ⟨_, _, rfl, ⟨k + 1, h0, h6, rfl, hS, (by omega), (snoc hP ((okAt_of s k (by omega)).2 (by omega))), rfl⟩, by omega⟩
      ·
        simp only [BS, ne_eq] at c20
        refine seq ?_
        refine region ?_
        refine sv (yAsg rfl) ?_
        refine nil ?_
        show Code.wp _ _ _ _ _
        refine wp_ret (blockR (blockR (thenR (thenR (blockR (thenR ?_))))))
        exact retV (res1 rfl (by rw [isName_bad s k (by omega) (fun h => by have := (okAt_of s k (by omega)).1 h; omega)]; rfl)) hS.ext
  ·
    simp only [BS, ne_eq] at c8
    refine exit ?_
    show Code.wp _ _ _ _ _
    refine seq ?_
    refine region ?_
    refine sv (yMove h0) ?_
    refine sv (ySNe rfl rfl) ?_
    refine sv (yMove rfl) ?_
    refine sg rfl rfl rfl (fun g => (yMove h0)) (fun v39 g39 => ?_)
    refine sg rfl rfl rfl (fun g => (yLenS (g39.1 g) Tryz.underlying9)) (fun v40 g40 => ?_)
    refine sg rfl rfl rfl (fun g => (yLeq (g40.1 g) rfl)) (fun v41 g41 => ?_)
    refine sv (yAnd rfl (fun hB => (g41.1 hB)) rfl) ?_
    refine sv (yAsg rfl) ?_
    refine nil ?_
    show Code.wp _ _ _ _ _
    refine wp_ret ?_
    exact retV (res1 rfl (by rw [isName_end s (fun i hi => hP i (by omega))]; rfl)) hS.ext
/-- barrage/barrageref01.in -/
theorem c_in1 {a lo hi : Int} {w0 : World} : CV Tryz.prog 137 #[.int .i64 a, .int .i64 lo, .int .i64 hi] w0 (.bool (inB a lo hi)) := by
  refine enter Tryz.func137 rfl Tryz.ntmps137 rfl ?_
  have hS := St.start w0
  refine seq ?_
  refine region ?_
  refine sv (yAsg rfl) ?_
  refine nil ?_
  show Code.wp _ _ _ _ _
  refine seq ?_
  refine region ?_
  refine sv (yMove rfl) ?_
  refine sv (yMove rfl) ?_
  refine sv (yGeq rfl rfl) ?_
  refine sv (yMove rfl) ?_
  refine sg rfl rfl rfl (fun g => (yMove rfl)) (fun v11 g11 => ?_)
  refine sg rfl rfl rfl (fun g => (yMove rfl)) (fun v12 g12 => ?_)
  refine sg rfl rfl rfl (fun g => (yLeq (g11.1 g) (g12.1 g))) (fun v13 g13 => ?_)
  refine sv (yAnd rfl (fun hB => (g13.1 hB)) rfl) ?_
  refine sv (yAsg rfl) ?_
  refine nil ?_
  show Code.wp _ _ _ _ _
  refine wp_ret ?_
  exact retV (res1 rfl rfl) hS.ext
/-- barrage/barrageref01.Name -/
theorem c_rName {s : ByteArray} {w0 : World} (hs : s.size ≤ 9223372036854775807) : CV Tryz.prog 115 #[.string s] w0 (.bool (isName s)) := by
  refine enter Tryz.func115 rfl Tryz.ntmps115 rfl ?_
  have hS := St.start w0
  refine seq ?_
  refine region ?_
  refine sv (yAsg rfl) ?_
  refine nil ?_
  show Code.wp _ _ _ _ _
  refine seq ?_
  refine seq ?_
  refine region ?_
  refine sv (yMove rfl) ?_
  refine sv (yLenS rfl Tryz.underlying9) ?_
  refine scall Tryz.call137 (.cons rfl (.cons rfl (.cons rfl .nil))) c_in1 ?_
  rintro _ w ⟨rfl, hE⟩; replace hS := hS.step hE; clear hE
  refine sv (yNot rfl) ?_
  refine nil ?_
  show Code.wp _ _ _ _ _
  refine cond rfl (fun c9 => ?_) (fun c9 => ?_)
  ·
    simp only [BS, ne_eq, inB] at c9
    refine seq ?_
    refine region ?_
    refine sv (yAsg rfl) ?_
    refine nil ?_
    show Code.wp _ _ _ _ _
    refine wp_ret (thenR ?_)
    exact retV (res1 rfl (eqB (isName_size s (by omega)))) hS.ext
  ·
    simp only [BS, ne_eq, inB] at c9
    refine skip ?_
    show Code.wp _ _ _ _ _
    refine seq ?_
    refine seq ?_
    refine region ?_
    refine sv (yAsg rfl) ?_
    refine nil ?_
    show Code.wp _ _ _ _ _
    refine block ?_
    refine loop (fun f w zz => ∃ (k : Nat), f 0 = .string s ∧ f 3 = .int .i64 (k : Int) ∧ StX [] w0 w [] ∧ (k ≤ s.size) ∧ (∀ i, i < k → okAt s i) ∧ zz = s.size - k) _ ⟨_, rfl, 0, rfl, rfl, hS, (Nat.zero_le _), (fun i hi => absurd hi (Nat.not_lt_zero i)), rfl⟩ ?_
    clear hS
    rintro f w _ ⟨k, h0, h3, hS, hk, hP, rfl⟩
    refine seq ?_
    refine seq ?_
    refine region ?_
    refine sv (yMove h3) ?_
    refine sv (yMove h0) ?_
    refine sv (yLenS rfl Tryz.underlying9) ?_
    refine sv (yLss rfl rfl) ?_
    refine nil ?_
    show Code.wp _ _ _ _ _
    refine cond rfl (fun c13 => ?_) (fun c13 => ?_)
    ·
      simp only [BS, ne_eq] at c13
      refine skip ?_
      show Code.wp _ _ _ _ _
      refine seq ?_
      refine block ?_
      refine seq ?_
      refine region ?_
      refine sv (yMove h0) ?_
      refine sv (yMove h3) ?_
      refine sv (yIxS rfl rfl Tryz.underlying9 (getElem?_pos s k (by omega))) ?_
      refine sv (yAsg rfl) ?_
      refine nil ?_
      show Code.wp _ _ _ _ _
      refine seq ?_
      refine region ?_
      refine sv (yMove rfl) ?_
      refine sv (yGeq rfl rfl) ?_
      refine sv (yMove rfl) ?_
      refine sg rfl rfl rfl (fun g => (yMove rfl)) (fun v22 g22 => ?_)
      refine sg rfl rfl rfl (fun g => (yLeq (g22.1 g) rfl)) (fun v23 g23 => ?_)
      refine sv (yAnd rfl (fun hB => (g23.1 hB)) rfl) ?_
      refine sv (yAsg rfl) ?_
      refine nil ?_
      show Code.wp _ _ _ _ _
      refine seq ?_
      refine region ?_
      refine sv (yMove rfl) ?_
      refine sv (yNot rfl) ?_
      refine sv (yMove rfl) ?_
      refine sg rfl rfl rfl (fun g => (yMove h3)) (fun v28 g28 => ?_)
      refine sg rfl rfl rfl (fun g => (yEql (g28.1 g) rfl)) (fun v29 g29 => ?_)
      refine sg rfl rfl rfl (fun g => (yMove (g29.1 g))) (fun v30 g30 => ?_)
      refine sgg rfl rfl g30 (fun g => (yMove rfl)) (fun v31 g31 => ?_)
      refine sgg rfl rfl g30 (fun g => (yNeq (g31.1 g) rfl)) (fun v32 g32 => ?_)
      refine sgg rfl rfl g30 (fun g => (yMove (g32.1 g))) (fun v33 g33 => ?_)
      refine sgg rfl rfl g33 (fun g => (yMove rfl)) (fun v34 g34 => ?_)
      refine sgg rfl rfl g33 (fun g => (yLss (g34.1 g) rfl)) (fun v35 g35 => ?_)
      refine sgg rfl rfl g33 (fun g => (yMove (g35.1 g))) (fun v36 g36 => ?_)
      refine sgg rfl rfl g36 (fun g => (yMove rfl)) (fun v37 g37 => ?_)
      refine sgg rfl rfl g36 (fun g => (yGtr (g37.1 g) rfl)) (fun v38 g38 => ?_)
      refine sgg rfl rfl g33 (fun g => (yOr (g36.1 g) rfl (fun hB => (g38.1 ⟨g, hB⟩)))) (fun v39 g39 => ?_)
      refine sgg rfl rfl g30 (fun g => (yAnd (g33.1 g) (fun hB => (g39.1 ⟨g, hB⟩)) rfl)) (fun v40 g40 => ?_)
      refine sg rfl rfl rfl (fun g => (yOr (g30.1 g) rfl (fun hB => (g40.1 ⟨g, hB⟩)))) (fun v41 g41 => ?_)
      refine sv (yAnd rfl (fun hB => (g41.1 hB)) rfl) ?_
      refine nil ?_
      show Code.wp _ _ _ _ _
      refine cond rfl (fun c42 => ?_) (fun c42 => ?_)
      ·
        simp only [BS, ne_eq] at c42
        refine seq ?_
        refine region ?_
        refine sv (yAsg rfl) ?_
        refine nil ?_
        show Code.wp _ _ _ _ _
        refine wp_ret (blockR (thenR (thenR (blockR (thenR ?_)))))
        exact retV (res1 rfl (eqB (isName_bad s k (by omega) (fun h => by have := (okAt_of s k (by omega)).1 h; omega)))) hS.ext
      ·
        simp only [BS, ne_eq] at c42
        refine skip ?_
        show Code.wp _ _ _ _ _
        refine region ?_
        refine sv (yMove h3) ?_
        refine sv (yAdd rfl rfl ⟨by omega, by omega⟩) ?_
        refine sv (yAsg rfl) ?_
        refine nil ?_
        exact ⟨_, _, rfl, ⟨k + 1, h0, rfl, hS, (by omega), (snoc hP ((okAt_of s k (by omega)).2 (by omega))), rfl⟩, by omega⟩
    ·
      simp only [BS, ne_eq] at c13
      refine exit ?_
      show Code.wp _ _ _ _ _
      refine seq ?_
      refine region ?_
      refine sv (yAsg rfl) ?_
      refine nil ?_
      show Code.wp _ _ _ _ _
      refine wp_ret ?_
      exact retV (res1 rfl (eqB (isName_good s (by omega) (by omega) (fun i hi => hP i (by omega))))) hS.ext
/-- slices.IndexFunc   int,int  -/
theorem c_IndexFuncInt {l : List Int} {p : Int → Bool} {v : Value} {g : Nat} {cl : List Value} {w0 : World} (hsl : Sl w0 1 RInt v l) (hcall : ∀ ys w, (callFunc g ys).run Tryz.prog w = .ok (.enter g ys) w) (hp : ∀ x cs w, x ∈ l → Ext w0 w → RInt w cs x → CV Tryz.prog g (.int .i64 x :: cl).toArray w (.bool (p x))) : CV Tryz.prog 111 #[v, .func (.func g) #[] cl.toArray] w0 (.int .i64 (idxF p l 0)) := by
  obtain ⟨a, cap, rfl, hcap, hmx, hel⟩ := hsl
  refine enter Tryz.func111 rfl Tryz.ntmps111 rfl ?_
  have hS := St.start w0
  refine seq ?_
  refine region ?_
  refine sv (yAsg rfl) ?_
  refine nil ?_
  show Code.wp _ _ _ _ _
  refine seq ?_
  refine seq ?_
  refine region ?_
  refine sv (yMove rfl) ?_
  refine sv (yLen rfl Tryz.underlying34) ?_
  refine sv (yMove rfl) ?_
  refine nil ?_
  show Code.wp _ _ _ _ _
  refine block ?_
  refine loop (fun f w zz => ∃ (k : Nat), f 0 = .slice a l.length cap ∧ f 1 = .func (.func g) #[] cl.toArray ∧ f 7 = .int .i64 (l.length : Int) ∧ f 8 = .int .i64 (k : Int) ∧ StX [] w0 w [] ∧ (k ≤ l.length) ∧ (idxF p l 0 = idxF p (l.drop k) k) ∧ zz = l.length - k) _ ⟨_, rfl, 0, rfl, rfl, rfl, rfl, hS, (Nat.zero_le _), (rfl), rfl⟩ ?_
  clear hS
  rintro f w _ ⟨k, h0, h1, h7, h8, hS, hk, hI, rfl⟩
  refine seq ?_
  refine region ?_
  refine sv (yLss h8 h7) ?_
  refine nil ?_
  show Code.wp _ _ _ _ _
  refine seq ?_
  refine cond rfl (fun c9 => ?_) (fun c9 => ?_)
  ·
    simp only [BS, ne_eq] at c9
    refine skip ?_
    show Code.wp _ _ _ _ _
    refine seq ?_
    refine block ?_
    refine seq ?_
    refine region ?_
    refine sv (yMove h8) ?_
    refine sv (yAsg rfl) ?_
    refine nil ?_
    show Code.wp _ _ _ _ _
    refine seq ?_
    refine region ?_
    obtain ⟨x, hx, hd⟩ := drop_of (l := l) (k := k) (by omega)
    obtain ⟨b, o, cs, ha, hlen, hcs, hR⟩ := hel k (by omega)
    obtain rfl : x = l[k] := (List.getElem?_eq_some_iff.1 hx).2.symm
    obtain ⟨rfl, hi64⟩ := hR
    have hR : RInt w0 [.int .i64 l[k]] l[k] := ⟨rfl, hi64⟩
    refine sv (yMove h1) ?_
    refine sv (yMove h0) ?_
    refine sv (yMove rfl) ?_
    refine sv (yIxa rfl ha rfl Tryz.runUnderlying34 Tryz.sizeOf3 (by omega) (by omega)) ?_
    refine sv (yLd rfl Tryz.isAgg3 (hcs.ext hS.ext).one) ?_
    refine scallf rfl hcall (.cons rfl .nil) (hp _ _ _ (List.getElem_mem _) hS.ext hR) ?_
    rintro _ w ⟨rfl, hE⟩; replace hS := hS.step hE; clear hE
    refine nil ?_
    show Code.wp _ _ _ _ _
    refine cond rfl (fun c16 => ?_) (fun c16 => ?_)
    ·
      refine seq ?_
      refine region ?_
      refine sv (yMove rfl) ?_
      refine sv (yAsg rfl) ?_
      refine nil ?_
      show Code.wp _ _ _ _ _
      refine wp_ret (blockR (thenR (thenR (blockR (thenR ?_)))))
      exact retV (res1 rfl (by rw [hI, hd, idxF, if_pos c16]; rfl)) hS.ext
    ·
      refine skip ?_
      show Code.wp _ _ _ _ _
      refine region ?_
      refine sv (yAdd h8 rfl ⟨by omega, by omega⟩) ?_
      refine sv (yMove rfl) ?_
      refine nil ?_
      exact ⟨_, _, rfl, ⟨k + 1, h0, h1, h7, rfl, hS, (by omega), (by rw [hI, hd, idxF, if_neg (by simp [c16])]; rfl), rfl⟩, by omega⟩
  ·
    simp only [BS, ne_eq] at c9
    refine exit ?_
    show Code.wp _ _ _ _ _
    refine seq ?_
    refine region ?_
    refine sv (yAsg rfl) ?_
    refine nil ?_
    show Code.wp _ _ _ _ _
    obtain rfl : k = l.length := by omega
    refine wp_ret ?_
    exact retV (res1 rfl (by rw [hI, List.drop_length]; rfl)) hS.ext
/-- slices.ContainsFunc   int,int  -/
theorem c_ContainsFuncInt {l : List Int} {p : Int → Bool} {v : Value} {g : Nat} {cl : List Value} {w0 : World} (hsl : Sl w0 1 RInt v l) (hcall : ∀ ys w, (callFunc g ys).run Tryz.prog w = .ok (.enter g ys) w) (hp : ∀ x cs w, x ∈ l → Ext w0 w → RInt w cs x → CV Tryz.prog g (.int .i64 x :: cl).toArray w (.bool (p x))) : CV Tryz.prog 61 #[v, .func (.func g) #[] cl.toArray] w0 (.bool (l.any p)) := by
  refine enter Tryz.func61 rfl Tryz.ntmps61 rfl ?_
  have hS := St.start w0
  refine seq ?_
  refine region ?_
  refine sv (yAsg rfl) ?_
  refine nil ?_
  show Code.wp _ _ _ _ _
  refine seq ?_
  refine region ?_
  refine sv (yMove rfl) ?_
  refine sv (yMove rfl) ?_
  refine scall Tryz.call111 (.cons rfl (.cons rfl .nil)) (c_IndexFuncInt hsl hcall hp) ?_
  rintro _ w ⟨rfl, hE⟩; replace hS := hS.step hE; clear hE
  refine sv (yGeq rfl rfl) ?_
  refine sv (yAsg rfl) ?_
  refine nil ?_
  show Code.wp _ _ _ _ _
  refine wp_ret ?_
  exact retV (res1 rfl (by rw [← idxF_any p l 0 (Int.le_refl 0)]; rfl)) hS.ext
/-- slices.Values   int,int  -/
theorem c_Values {a : Option Addr} {len cap : Nat} {w0 : World} : CE Tryz.prog 64 #[.slice a len cap] w0 (fun u w' => ∃ b, u = .func (.func 114) #[] [.pointer (some ⟨b, 0, none⟩)].toArray ∧ St w0 w' [blk b [.slice a len cap] 34]) := by
  refine enter Tryz.func64 rfl Tryz.ntmps64 rfl ?_
  have hS := St.start w0
  refine seq ?_
  refine region ?_
  refine sbox hS rfl rfl ?_; clear hS; intro b1 w hS
  refine sv (yAsg rfl) ?_
  refine nil ?_
  show Code.wp _ _ _ _ _
  refine seq ?_
  refine region ?_
  refine sv (yFn (.cons rfl .nil)) ?_
  refine sv (yAsg rfl) ?_
  refine nil ?_
  show Code.wp _ _ _ _ _
  refine wp_ret ?_
  refine retQ (res1 rfl rfl) ?_
  exact ⟨b1, rfl, hS⟩
/-- slices.Values   int,int  closure 1 -/
theorem it_Values {l : List Int} {a : Option Addr} {cap b : Nat} {T : TypeId} {w0 : World} (hsl : Sl w0 1 RInt (.slice a l.length cap) l) (hb : w0.heap[b]? = some (.cells [.slice a l.length cap].toArray T (0, 0))) : ItC Tryz.prog 114 [.pointer (some ⟨b, 0, none⟩)] w0 [] Bx.encI l := by
  obtain ⟨a', cap', hv, hcap, hmx, hel⟩ := hsl
  obtain ⟨rfl, rfl⟩ := slice_inj hv.symm
  intro yl Cb w L hY h0 hS
  replace hS : StX [] w0 w L := hS
  refine enterX Tryz.func114 rfl Tryz.ntmps114 rfl ?_
  skip
  refine seqX ?_
  refine regionX rfl ?_
  refine sv (yLd rfl Tryz.isAgg34 (cell_of (hS.ext.get hb) rfl)) ?_
  refine sv (yLen rfl Tryz.underlying34) ?_
  refine sv (yMove rfl) ?_
  refine nil ?_
  show Code.wpIn _ _ _ _ _ _ _
  refine blockX ?_
  refine loopX (fun f w zz => ∃ (k : Nat) (L : List Bx.Item), f 0 = .func (.yield yl) #[] #[] ∧ f 5 = .slice a l.length cap ∧ f 6 = .int .i64 (l.length : Int) ∧ f 7 = .int .i64 (k : Int) ∧ StX [] w0 w (L) ∧ (k ≤ l.length) ∧ (Cb true (l.take k) L) ∧ zz = l.length - k) _ ⟨_, rfl, 0, L, rfl, rfl, rfl, rfl, hS, (Nat.zero_le _), (h0), rfl⟩ ?_
  clear hS
  rintro f w _ ⟨k, L, h0, h5, h6, h7, hS, hk, hcb, rfl⟩
  refine seqX ?_
  refine regionX rfl ?_
  refine sv (yLss h7 h6) ?_
  refine nil ?_
  show Code.wpIn _ _ _ _ _ _ _
  refine seqX ?_
  refine condX rfl (fun c8 => ?_) (fun c8 => ?_)
  ·
    simp only [BS, ne_eq] at c8
    refine skipX ?_
    show Code.wpIn _ _ _ _ _ _ _
    refine seqX ?_
    refine blockX ?_
    refine seqX ?_
    refine regionX rfl ?_
    obtain ⟨x, hx, hd⟩ := drop_of (l := l) (k := k) (by omega)
    obtain ⟨b2, o, cs, ha, hlen, hcs, hR⟩ := hel k (by omega)
    obtain rfl : x = l[k] := (List.getElem?_eq_some_iff.1 hx).2.symm
    generalize l[k] = x at hx hd hR
    obtain ⟨rfl, hi64⟩ := hR
    refine sv (yIxa h5 ha h7 Tryz.runUnderlying34 Tryz.sizeOf3 (by omega) (by omega)) ?_
    refine sv (yLd rfl Tryz.isAgg3 ((hcs.ext hS.ext).one)) ?_
    refine sv (yAsg rfl) ?_
    refine nil ?_
    show Code.wpIn _ _ _ _ _ _ _
    refine seqX ?_
    refine regionL ?_
    refine preX 2 rfl ?_
    refine sv (yMove h0) ?_
    refine sv (yMove rfl) ?_
    refine nil ?_
    show wpListIn _ _ _ _ _ _ _ _
    refine yieldU rfl (.cons rfl .nil) (hY (l.take k) x w L [] (by rw [← take_snoc hx]; exact List.take_prefix _ _) hcb hS) ?_
    clear hS hcb; rintro _ w ⟨bb, L, rfl, hcb, hS⟩
    replace hS : StX [] w0 w L := hS
    refine endX rfl ?_
    refine sv (yNot rfl) ?_
    refine nil ?_
    show Code.wpIn _ _ _ _ _ _ _
    refine condX rfl (fun c14 => ?_) (fun c14 => ?_)
    ·
      skip
      obtain rfl : bb = false := by cases bb; rfl; simp at c14
      refine wpIn_ret (blockR (thenR (thenR (blockR ?_))))
      refine leafX (results_none rfl _ _ _) ?_
      exact ⟨L, hS, .inr ⟨_, hcb⟩⟩
    ·
      skip
      obtain rfl : bb = true := by cases bb; simp at c14; rfl
      refine skipX ?_
      show Code.wpIn _ _ _ _ _ _ _
      refine regionX rfl ?_
      refine sv (yAdd h7 rfl ⟨by omega, by omega⟩) ?_
      refine sv (yMove rfl) ?_
      refine nil ?_
      exact ⟨_, _, rfl, ⟨k + 1, L, h0, h5, h6, rfl, hS, (by omega), (by rw [take_snoc hx]; exact hcb), rfl⟩, by omega⟩
  ·
    simp only [BS, ne_eq] at c8
    refine exitX ?_
    show bodyPostM (FX none) 0 _ _ _ .normal _ _
    refine leafXN (results_none rfl _ _ _) ?_
    obtain rfl : k = l.length := by omega
    rw [List.take_length] at hcb
    exact ⟨L, hS, .inl hcb⟩
set_option maxHeartbeats 1000000 in
/-- slices.AppendSeq   int,int  -/
theorem c_AppendSeq {l : List Int} {g : Nat} {cl : List Value} {w0 : World} (hit : ∀ w', Ext w0 w' → ItC Tryz.prog g cl w' [] Bx.encI l) (eg : ∀ ys w, (callFunc g ys).run Tryz.prog w = .ok (.enter g ys) w) (hrm : Room l.length 8) : CE Tryz.prog 134 #[.slice none 0 0, .func (.func g) #[] cl.toArray] w0 (fun u w' => St w0 w' [rowI u 3 1 (l).length ((l).flatMap Bx.encI)]) := by
  refine enterX Tryz.func134 rfl Tryz.ntmps134 rfl ?_
  have hS := St.start w0
  refine seqX ?_
  refine regionX rfl ?_
  refine sbox hS rfl rfl ?_; clear hS; intro b2 w hS
  refine sv (yAsg rfl) ?_
  refine nil ?_
  show Code.wpIn _ _ _ _ _ _ _
  refine seqX ?_
  refine seqX ?_
  refine regionX rfl ?_
  replace hS := hS.nilrow 3 1
  have hrm8 : l.length * 8 ≤ 140737488351232 := hrm
  refine sv (yMove rfl) ?_
  refine nil ?_
  show Code.wpIn _ _ _ _ _ _ _
  refine blockX ?_
  refine rangeX (R := []) (L0 := [rowI (.slice none 0 0) 3 1 0 [], blk b2 [.slice none 0 0] 34]) (ps := [7]) rfl eg hS (hit w0 (Ext.refl _)) (fun cc pre L => cc = none ∧ ∃ v, L = [rowI v 3 1 (pre).length ((pre).flatMap Bx.encI), blk b2 [v] 34]) ⟨rfl, _, rfl⟩ (fun _ _ => rfl) ?_ ?_ ?_
  ·
    clear hS
    intro yl pre x w L M hpre hcb hS
    obtain ⟨-, v, rfl⟩ := hcb
    have hpl := hpre.length_le
    simp only [List.length_append, List.length_singleton] at hpl
    replace hS : StX [] w0 w (rowI v 3 1 (pre).length ((pre).flatMap Bx.encI) :: blk b2 [v] 34 :: M) := hS
    refine regionX rfl ?_
    refine sv (yAsg rfl) ?_
    refine nil ?_
    refine ⟨_, [rowI v 3 1 (pre).length ((pre).flatMap Bx.encI), blk b2 [v] 34], rfl, hS, ?_⟩
    clear hS M; intro M w hS; replace hS : StX [] w0 w (rowI v 3 1 (pre).length ((pre).flatMap Bx.encI) :: blk b2 [v] 34 :: M) := hS
    refine blockX ?_
    refine regionX rfl ?_
    refine sv (yLdB rfl Tryz.isAgg34 (hS.at _) rfl) ?_
    refine sv (yMove rfl) ?_
    refine sbslice hS Tryz.underlying34 Tryz.sizeOf3 rfl Tryz.zeroValue3 rfl (.cons rfl rfl .nil) rfl ?_; clear hS; intro b10 w hS
    refine sapp (bytes := 8) (size := 1) (v := v) (m := 1) hS rfl rfl Tryz.underlying34 ti3 rfl rfl rfl rfl (by decide) (blk_cells (hS.at _)) rfl rfl (by omega) (by omega) ?_; clear hS; intro v11 w hS
    obtain ⟨gr, capr, rfl, -⟩ := row_some (hS.row v11) (Nat.succ_pos _)
    refine sst hS rfl rfl Tryz.sizeOf34 rfl rfl rfl rfl ?_; clear hS; intro w hS
    refine nil ?_
    exact ⟨_, ⟨rfl, _, rfl⟩, (by rw [List.flatMap_append, List.length_append]; exact hS.sub (.cons _ (List.Sublist.refl _)))⟩
  ·
    clear hS
    intro D w L hcb hS
    obtain ⟨-, v, rfl⟩ := hcb
    replace hS : StX [] w0 w [obj D (.deferred (some [])), rowI v 3 1 (l).length ((l).flatMap Bx.encI), blk b2 [v] 34] := hS
    show Code.wpIn _ _ _ _ _ _ _
    refine seqX ?_
    refine regionX rfl ?_
    refine sv (yLdB rfl Tryz.isAgg34 (hS.at _) rfl) ?_
    refine sv (yAsg rfl) ?_
    refine nil ?_
    show Code.wpIn _ _ _ _ _ _ _
    refine wpIn_ret ?_
    refine leafD hS (fun w hS => (res1 rfl rfl)) (fun w hS => ?_)
    show St w0 w [_]
    exact hS.sub (.cons _ (.cons_cons _ (List.nil_sublist _)))
  ·
    intro D w L c pre hcb hS; exact absurd hcb.1 (by simp)
/-- slices.Collect int  -/
theorem c_Collect {l : List Int} {g : Nat} {cl : List Value} {w0 : World} (hit : ∀ w', Ext w0 w' → ItC Tryz.prog g cl w' [] Bx.encI l) (eg : ∀ ys w, (callFunc g ys).run Tryz.prog w = .ok (.enter g ys) w) (hrm : Room l.length 8) : CE Tryz.prog 112 #[.func (.func g) #[] cl.toArray] w0 (fun u w' => St w0 w' [rowI u 3 1 (l).length ((l).flatMap Bx.encI)]) := by
  refine enter Tryz.func112 rfl Tryz.ntmps112 rfl ?_
  have hS := St.start w0
  refine seq ?_
  refine region ?_
  refine sv (yAsg rfl) ?_
  refine nil ?_
  show Code.wp _ _ _ _ _
  refine seq ?_
  refine region ?_
  refine sv (yMove rfl) ?_
  refine scall Tryz.call134 (.cons rfl (.cons rfl .nil)) (c_AppendSeq (fun w' e => hit w' (hS.ext.trans e)) eg hrm) ?_
  rintro v w hM; replace hS := hS.call1 hM; clear hM
  refine sv (yAsg rfl) ?_
  refine nil ?_
  show Code.wp _ _ _ _ _
  refine wp_ret ?_
  refine retQ (res1 rfl rfl) ?_
  exact hS
/-- slices.Sorted int  -/
theorem c_Sorted {l : List Int} {g : Nat} {cl : List Value} {w0 : World} (hit : ∀ w', Ext w0 w' → ItC Tryz.prog g cl w' [] Bx.encI l) (eg : ∀ ys w, (callFunc g ys).run Tryz.prog w = .ok (.enter g ys) w) (hrm : Room l.length 8) : CE Tryz.prog 63 #[.func (.func g) #[] cl.toArray] w0 (fun u w' => St w0 w' [rowI u 3 1 (sortI l).length ((sortI l).flatMap Bx.encI)]) := by
  refine enter Tryz.func63 rfl Tryz.ntmps63 rfl ?_
  have hS := St.start w0
  refine seq ?_
  refine region ?_
  refine sv (yAsg rfl) ?_
  refine nil ?_
  show Code.wp _ _ _ _ _
  refine seq ?_
  refine region ?_
  refine sv (yMove rfl) ?_
  refine scall Tryz.call112 (.cons rfl .nil) (c_Collect (fun w' e => hit w' (hS.ext.trans e)) eg hrm) ?_
  rintro v w hM; replace hS := hS.call1 hM; clear hM
  have hrm8 : l.length * 8 ≤ 140737488351232 := hrm
  refine sv (yAsg rfl) ?_
  refine nil ?_
  show Code.wp _ _ _ _ _
  refine seq ?_
  refine region ?_
  refine sv (yMove rfl) ?_
  refine scall Tryz.call113 (.cons rfl .nil) (c_Sort (hS.row v) rfl (by omega)) ?_
  rintro _ w ⟨rfl, hG, hR⟩; replace hS := hS.app (v := v) (v' := v) hR hG (.inl rfl); clear hG hR
  refine nil ?_
  show Code.wp _ _ _ _ _
  refine seq ?_
  refine region ?_
  refine sv (yMove rfl) ?_
  refine sv (yAsg rfl) ?_
  refine nil ?_
  show Code.wp _ _ _ _ _
  refine wp_ret ?_
  refine retQ (res1 rfl rfl) ?_
  show St w0 w [_]
  rw [(sortI_perm l).length_eq]
  exact hS
set_option maxHeartbeats 2000000 in
/-- slices.Compact   int,int  -/
theorem c_Compact {l : List Int} {a : Option Addr} {cap : Nat} {w0 : World} (hr : w0.ownsRow 0 3 1 (.slice a l.length cap) l.length (l.flatMap Bx.encI)) (hrm : l.length * 8 ≤ 140737488351232) : CE Tryz.prog 62 #[.slice a l.length cap] w0 (fun u w' => u = .slice a (compL l).length cap ∧ StX (Value.slice a l.length cap).ownBlock.toList w0 w' [rowI (.slice a (compL l).length cap) 3 1 (compL l).length ((compL l).flatMap Bx.encI)]) := by
  refine enter Tryz.func62 rfl Tryz.ntmps62 rfl ?_
  have hS := StX.startR hr
  refine seq ?_
  refine region ?_
  refine sv (yAsg rfl) ?_
  refine nil ?_
  show Code.wp _ _ _ _ _
  refine seq ?_
  refine seq ?_
  refine region ?_
  refine sv (yMove rfl) ?_
  refine sv (yLen rfl Tryz.underlying34) ?_
  refine sv (yLss rfl rfl) ?_
  refine nil ?_
  show Code.wp _ _ _ _ _
  refine cond rfl (fun c8 => ?_) (fun c8 => ?_)
  ·
    simp only [BS, ne_eq] at c8
    have hfl := compL_short c8
    refine seq ?_
    refine region ?_
    refine sv (yMove rfl) ?_
    refine sv (yAsg rfl) ?_
    refine nil ?_
    show Code.wp _ _ _ _ _
    refine wp_ret (thenR ?_)
    refine retQ (res1 rfl rfl) ?_
    rw [hfl]
    exact ⟨rfl, hS⟩
  ·
    simp only [BS, ne_eq] at c8
    obtain ⟨gb, rfl, -⟩ := row_get (hS.row (.slice a l.length cap)) (by omega)
    have hcap : l.length ≤ cap := by
      obtain ⟨g2, c2, e2, h2, -⟩ := row_some (hS.row (.slice (some ⟨gb, 0, none⟩) l.length cap)) (by omega)
      obtain ⟨-, rfl⟩ := slice_inj e2
      exact h2
    refine skip ?_
    show Code.wp _ _ _ _ _
    refine seq ?_
    refine seq ?_
    refine region ?_
    refine sv (yAsg rfl) ?_
    refine nil ?_
    show Code.wp _ _ _ _ _
    refine block ?_
    refine loop (fun f w zz => ∃ (k : Nat), f 0 = .slice (some ⟨gb, 0, none⟩) l.length cap ∧ f 3 = .int .i64 (k : Int) ∧ StX (Value.slice (some ⟨gb, 0, none⟩) l.length cap).ownBlock.toList w0 w ([rowI (.slice (some ⟨gb, 0, none⟩) l.length cap) 3 1 l.length ((l).flatMap Bx.encI)]) ∧ (1 ≤ k ∧ k ≤ l.length) ∧ (compL l = l.take k ++ compR (l.getD (k - 1) 0) (l.drop k)) ∧ zz = l.length - k) _ ⟨_, rfl, 1, rfl, rfl, hS, (⟨Nat.le_refl _, by omega⟩), (compL_one (by omega)), rfl⟩ ?_
    clear hS
    rintro f w _ ⟨k, h0, h3, hS, hk, hI, rfl⟩
    refine seq ?_
    refine seq ?_
    refine region ?_
    refine sv (yMove h3) ?_
    refine sv (yMove h0) ?_
    refine sv (yLen rfl Tryz.underlying34) ?_
    refine sv (yLss rfl rfl) ?_
    refine nil ?_
    show Code.wp _ _ _ _ _
    refine cond rfl (fun c13 => ?_) (fun c13 => ?_)
    ·
      simp only [BS, ne_eq] at c13
      obtain ⟨x, hx, hd⟩ := drop_of (l := l) (k := k) (by omega)
      obtain ⟨y, hy, -⟩ := drop_of (l := l) (k := k - 1) (by omega)
      refine skip ?_
      show Code.wp _ _ _ _ _
      refine seq ?_
      refine block ?_
      refine seq ?_
      refine region_draw mixed (by kernel_rfl) hS ?_
      refine qv (fun w hS => (yMove h0)) ?_
      refine qv (fun w hS => (yMove h3)) ?_
      refine qv (fun w hS => (yIx0 (m := k) rfl rfl Tryz.runUnderlying34 Tryz.sizeOf3 (by omega))) ?_
      refine qv (fun w hS => (yLd rfl Tryz.isAgg3 ((flat_cells0 (enc := Bx.encI) encI_len (row_at (hS.row (.slice (some ⟨gb, 0, none⟩) l.length cap)) rfl (by omega)) hx).one))) ?_
      refine qv (fun w hS => (yMove h0)) ?_
      refine qv (fun w hS => (yMove h3)) ?_
      refine qv (fun w hS => (Y.to (ySub rfl rfl ⟨by omega, by omega⟩) (show Value.int .i64 _ = .int .i64 ((k - 1 : Nat) : Int) by congr 1; omega))) ?_
      refine qv (fun w hS => (yIx0 (m := k - 1) rfl rfl Tryz.runUnderlying34 Tryz.sizeOf3 (by omega))) ?_
      refine qv (fun w hS => (yLd rfl Tryz.isAgg3 ((flat_cells0 (enc := Bx.encI) encI_len (row_at (hS.row (.slice (some ⟨gb, 0, none⟩) l.length cap)) rfl (by omega)) hy).one))) ?_
      refine qv (fun w hS => (yEql rfl rfl)) ?_
      clear hS; refine qnil (fun w hS => ?_)
      show Code.wp _ _ _ _ _
      refine cond rfl (fun c25 => ?_) (fun c25 => ?_)
      ·
        simp only [BS, ne_eq] at c25
        refine seq ?_
        refine region ?_
        refine sv (yMove h0) ?_
        refine sv (yMove h3) ?_
        refine sv (yFrom (i := k) rfl rfl Tryz.underlying34 Tryz.sizeOf3 (by omega) (by omega)) ?_
        refine sv (yAsg rfl) ?_
        refine nil ?_
        show Code.wp _ _ _ _ _
        refine seq ?_
        refine seq ?_
        refine region ?_
        refine sv (yAsg rfl) ?_
        refine nil ?_
        show Code.wp _ _ _ _ _
        refine block ?_
        have htl : (l.take k).length = k := by simp; omega
        refine loop (fun f w zz => ∃ (ks js : List Int) (j : Nat), f 0 = .slice (some ⟨gb, 0, none⟩) l.length cap ∧ f 3 = .int .i64 (ks.length : Int) ∧ f 4 = .slice (some ⟨gb, 0 + k * 1, none⟩) (l.length - k) (cap - k) ∧ f 5 = .int .i64 ((j - k : Nat) : Int) ∧ StX (Value.slice (some ⟨gb, 0, none⟩) l.length cap).ownBlock.toList w0 w ([rowI (.slice (some ⟨gb, 0, none⟩) l.length cap) 3 1 l.length ((ks ++ js ++ l.drop j).flatMap Bx.encI)]) ∧ (k < j ∧ j ≤ l.length) ∧ (ks.length + js.length = j) ∧ (js ≠ []) ∧ ((ks ++ js)[j - 1]? = l[j - 1]?) ∧ (compL l = ks ++ compR (l.getD (j - 1) 0) (l.drop j)) ∧ zz = l.length - j) _ ⟨_, rfl, l.take k, [x], k + 1, h0, (by rw [htl]; exact h3), rfl, (by rw [show k + 1 - k = 1 by omega]; exact rfl), (by rw [cut_at hx]; exact hS), (⟨by omega, by omega⟩), (by rw [htl]; rfl), (by simp), (by rw [List.getElem?_append_right (by rw [htl]; omega), htl, Nat.add_sub_cancel, Nat.sub_self, hx]; rfl), (by rw [hI, hd, getD_of hy, compR, if_pos c25, Nat.add_sub_cancel, getD_of hx, c25]), rfl⟩ ?_
        clear hS
        rintro f w _ ⟨ks, js, j, h0, h3, h4, h5, hS, hj, hl, hne, hla, hI2, rfl⟩
        refine seq ?_
        refine seq ?_
        refine region ?_
        refine sv (yMove h5) ?_
        refine sv (yMove h4) ?_
        refine sv (yLen rfl Tryz.underlying34) ?_
        refine sv (yLss rfl rfl) ?_
        refine nil ?_
        show Code.wp _ _ _ _ _
        refine cond rfl (fun c32 => ?_) (fun c32 => ?_)
        ·
          simp only [BS, ne_eq] at c32
          obtain ⟨z, hz, hdz⟩ := drop_of (l := l) (k := j) (by omega)
          obtain ⟨u, hu, -⟩ := drop_of (l := l) (k := j - 1) (by omega)
          have hml := (mid_last hl hne hla).trans hu
          have hmz := mid_get hl hz
          have hjp := List.length_pos_iff.2 hne
          refine skip ?_
          show Code.wp _ _ _ _ _
          refine seq ?_
          refine block ?_
          refine seq ?_
          refine region_draw mixed (by kernel_rfl) hS ?_
          refine qv (fun w hS => (yMove h4)) ?_
          refine qv (fun w hS => (yMove h5)) ?_
          refine qv (fun w hS => (Y.to (yIxa rfl rfl rfl Tryz.runUnderlying34 Tryz.sizeOf3 (by omega) (by omega)) (show Value.pointer (some ⟨gb, 0 + k * 1 + (j - k) * 1, none⟩) = .pointer (some ⟨gb, (j) * 1, none⟩) by rw [show 0 + k * 1 + (j - k) * 1 = (j) * 1 by omega]))) ?_
          refine qv (fun w hS => (yLd rfl Tryz.isAgg3 ((flat_cells0 (enc := Bx.encI) encI_len (row_at (hS.row (.slice (some ⟨gb, 0, none⟩) l.length cap)) rfl (by omega)) hmz).one))) ?_
          refine qv (fun w hS => (yMove h4)) ?_
          refine qv (fun w hS => (yMove h5)) ?_
          refine qv (fun w hS => (Y.to (ySub rfl rfl ⟨by omega, by omega⟩) (show Value.int .i64 _ = .int .i64 ((j - k - 1 : Nat) : Int) by congr 1; omega))) ?_
          refine qv (fun w hS => (Y.to (yIxa rfl rfl rfl Tryz.runUnderlying34 Tryz.sizeOf3 (by omega) (by omega)) (show Value.pointer (some ⟨gb, 0 + k * 1 + (j - k - 1) * 1, none⟩) = .pointer (some ⟨gb, (j - 1) * 1, none⟩) by rw [show 0 + k * 1 + (j - k - 1) * 1 = (j - 1) * 1 by omega]))) ?_
          refine qv (fun w hS => (yLd rfl Tryz.isAgg3 ((flat_cells0 (enc := Bx.encI) encI_len (row_at (hS.row (.slice (some ⟨gb, 0, none⟩) l.length cap)) rfl (by omega)) hml).one))) ?_
          refine qv (fun w hS => (yNeq rfl rfl)) ?_
          clear hS; refine qnil (fun w hS => ?_)
          show Code.wp _ _ _ _ _
          refine cond rfl (fun c44 => ?_) (fun c44 => ?_)
          ·
            simp only [BS, ne_eq] at c44
            refine seq ?_
            refine region ?_
            refine sv (yMove h0) ?_
            refine sv (yMove h3) ?_
            refine sv (yMove h4) ?_
            refine sv (yMove h5) ?_
            refine sv (Y.to (yIxa rfl rfl rfl Tryz.runUnderlying34 Tryz.sizeOf3 (by omega) (by omega)) (show Value.pointer (some ⟨gb, 0 + k * 1 + (j - k) * 1, none⟩) = .pointer (some ⟨gb, (j) * 1, none⟩) by rw [show 0 + k * 1 + (j - k) * 1 = (j) * 1 by omega])) ?_
            refine sv (yLd rfl Tryz.isAgg3 ((flat_cells0 (enc := Bx.encI) encI_len (row_at (hS.row (.slice (some ⟨gb, 0, none⟩) l.length cap)) rfl (by omega)) hmz).one)) ?_
            refine sv (yIx0 (m := ks.length) rfl rfl Tryz.runUnderlying34 Tryz.sizeOf3 (by omega)) ?_
            refine srst (m := l.length) (cap := cap) (sz := 1) hS rfl rfl Tryz.sizeOf3 rfl rfl (by omega) rfl ?_; clear hS; intro w hS
            refine nil ?_
            show Code.wp _ _ _ _ _
            refine region ?_
            refine sv (yMove h3) ?_
            refine sv (yAdd rfl rfl ⟨by omega, by omega⟩) ?_
            refine sv (yAsg rfl) ?_
            refine nil ?_
            show Code.wp _ _ _ _ _
            refine region ?_
            refine sv (yMove h5) ?_
            refine sv (yAdd rfl rfl ⟨by omega, by omega⟩) ?_
            refine sv (yAsg rfl) ?_
            refine nil ?_
            exact ⟨_, _, rfl, ⟨ks ++ [z], js.tail ++ [z], j + 1, h0, (by rw [List.length_append]; exact rfl), h4, (by rw [show j + 1 - k = (j - k) + 1 by omega]; exact rfl), (by rw [gap_outI hz hne]; exact hS), (⟨by omega, by omega⟩), (by simp; have := List.length_pos_iff.2 hne; omega), (by simp), (last_out hz hl hne), (by rw [hI2, hdz, getD_of hu, compR, if_neg c44, Nat.add_sub_cancel, getD_of hz, List.append_assoc]; rfl), rfl⟩, by omega⟩
          ·
            simp only [BS, ne_eq] at c44
            refine skip ?_
            show Code.wp _ _ _ _ _
            refine region ?_
            refine sv (yMove h5) ?_
            refine sv (yAdd rfl rfl ⟨by omega, by omega⟩) ?_
            refine sv (yAsg rfl) ?_
            refine nil ?_
            exact ⟨_, _, rfl, ⟨ks, js ++ [z], j + 1, h0, h3, h4, (by rw [show j + 1 - k = (j - k) + 1 by omega]; exact rfl), (by rw [gap_in hz]; exact hS), (⟨by omega, by omega⟩), (by simp; omega), (by simp), (last_in hz hl), (by rw [hI2, hdz, getD_of hu, compR, if_pos c44, Nat.add_sub_cancel, getD_of hz, c44]), rfl⟩, by omega⟩
        ·
          simp only [BS, ne_eq] at c32
          obtain rfl : j = l.length := by omega
          have hjp := List.length_pos_iff.2 hne
          rw [List.drop_length] at hI2
          have hfl : compL l = ks := by rw [hI2]; simp [compR]
          refine exit ?_
          show Code.wp _ _ _ _ _
          refine seq ?_
          refine region ?_
          refine sv (yMove h0) ?_
          refine sv (yMove h3) ?_
          refine sv (yTail rfl rfl Tryz.underlying34 Tryz.sizeOf3 (by omega)) ?_
          refine sclear (i := ks.length) (m := l.length) hS rfl Tryz.underlying34 Tryz.zeroValue3 rfl (by decide) (by decide) (by omega) ?_; clear hS; intro w hS
          refine nil ?_
          show Code.wp _ _ _ _ _
          refine seq ?_
          refine region ?_
          refine sv (yMove h0) ?_
          refine sv (yMove h3) ?_
          refine sv (yHead ⟨_, rfl⟩ rfl rfl Tryz.underlying34 Tryz.sizeOf3 (by omega)) ?_
          refine sv (yAsg rfl) ?_
          refine nil ?_
          show Code.wp _ _ _ _ _
          refine wp_ret (blockR (thenR (thenR (blockR (thenR ?_)))))
          refine retQ (res1 rfl rfl) ?_
          rw [hfl]
          rw [List.append_assoc, take_flatI] at hS
          exact ⟨rfl, hS⟩
      ·
        simp only [BS, ne_eq] at c25
        refine skip ?_
        show Code.wp _ _ _ _ _
        refine region ?_
        refine sv (yMove h3) ?_
        refine sv (yAdd rfl rfl ⟨by omega, by omega⟩) ?_
        refine sv (yAsg rfl) ?_
        refine nil ?_
        exact ⟨_, _, rfl, ⟨k + 1, h0, rfl, hS, (⟨by omega, by omega⟩), (by rw [hI, hd, getD_of hy, compR, if_neg c25, take_snoc hx, List.append_assoc, Nat.add_sub_cancel, getD_of hx]; rfl), rfl⟩, by omega⟩
    ·
      simp only [BS, ne_eq] at c13
      obtain rfl : k = l.length := by omega
      rw [List.take_length, List.drop_length] at hI
      have hfl : compL l = l := by rw [hI]; simp [compR]
      refine exit ?_
      show Code.wp _ _ _ _ _
      refine seq ?_
      refine region ?_
      refine sv (yMove h0) ?_
      refine sv (yAsg rfl) ?_
      refine nil ?_
      show Code.wp _ _ _ _ _
      refine wp_ret ?_
      refine retQ (res1 rfl rfl) ?_
      rw [hfl]
      exact ⟨rfl, hS⟩
end Go.Proofs.YtmoilbakmlekbaaGreatDoor

/- part Aw2 -/
namespace Go.Proofs.YtmoilbakmlekbaaGreatDoor
open Go Bx
set_option maxHeartbeats 1000000 in
/-- barrage/alarm.each barrage/api.AlChannel  -/
theorem c_eachChan {l : List Chan} {v : Value} {g1 g2 : Nat} {k1 k2 : List Value} {nm : Chan → ByteArray} {rest : Chan → Int} {w0 : World} (hsl : Sl w0 3 RChan v l) (hc1 : ∀ ys w, (callFunc g1 ys).run Tryz.prog w = .ok (.enter g1 ys) w) (hc2 : ∀ ys w, (callFunc g2 ys).run Tryz.prog w = .ok (.enter g2 ys) w) (hn : ∀ x cs w, x ∈ l → Ext w0 w → RChan w cs x → CV Tryz.prog g1 (.agg cs.toArray :: k1).toArray w (.string (nm x))) (hr : ∀ x cs w, x ∈ l → Ext w0 w → RChan w cs x → CV Tryz.prog g2 (.agg cs.toArray :: k2).toArray w (.int .i64 (rest x))) (hsz : ∀ x ∈ l, (nm x).size ≤ 9223372036854775807) : CE Tryz.prog 53 #[v, .func (.func g1) #[] k1.toArray, .func (.func g2) #[] k2.toArray] w0 (fun u w' => ((namedR nm rest l [] 0).2 = 0 ∧ u = .nilIface ∧ Ext w0 w') ∨ ∃ b, (namedR nm rest l [] 0).2 ≠ 0 ∧ u = .iface 117 (.pointer (some ⟨b, 0, none⟩)) ∧ StX [] w0 w' [blk b [.int .i64 (namedR nm rest l [] 0).1, .int .i64 (namedR nm rest l [] 0).2] 127]) := by
  obtain ⟨a, cap, rfl, hcap, hmx, hel⟩ := id hsl
  refine enter Tryz.func53 rfl Tryz.ntmps53 rfl ?_
  have hS := St.start w0
  refine seq ?_
  refine region ?_
  refine sv (yAsg rfl) ?_
  refine nil ?_
  show Code.wp _ _ _ _ _
  refine seq ?_
  refine region ?_
  refine smkmapF Value.string (Value.int .i64) hS ?_; clear hS; intro b13 w hS
  refine sv (yAsg rfl) ?_
  refine nil ?_
  show Code.wp _ _ _ _ _
  refine seq ?_
  refine seq ?_
  refine region ?_
  refine sv (yMove rfl) ?_
  refine sv (yLen rfl Tryz.underlying22) ?_
  refine sv (yMove rfl) ?_
  refine nil ?_
  show Code.wp _ _ _ _ _
  refine block ?_
  refine loop (fun f w zz => ∃ (k : Nat) (F : ByteArray → Option Int), f 1 = .func (.func g1) #[] k1.toArray ∧ f 2 = .func (.func g2) #[] k2.toArray ∧ f 7 = .map (some b13) ∧ f 14 = .slice a l.length cap ∧ f 15 = .int .i64 (l.length : Int) ∧ f 16 = .int .i64 (k : Int) ∧ StX [] w0 w [mapF b13 Value.string (Value.int .i64) F] ∧ (k ≤ l.length) ∧ (∀ s, (F s).isSome = memB s ((l.take k).map nm)) ∧ (namedR nm rest l [] 0 = namedR nm rest (l.drop k) ((l.take k).map nm) k) ∧ zz = l.length - k) _ ⟨_, rfl, 0, _, rfl, rfl, rfl, rfl, rfl, rfl, hS, (Nat.zero_le _), (fun _ => rfl), (rfl), rfl⟩ ?_
  clear hS
  rintro f w _ ⟨k, F, h1, h2, h7, h14, h15, h16, hS, hk, hF, hI, rfl⟩
  refine seq ?_
  refine region ?_
  refine sv (yLss h16 h15) ?_
  refine nil ?_
  show Code.wp _ _ _ _ _
  refine seq ?_
  refine cond rfl (fun c17 => ?_) (fun c17 => ?_)
  ·
    simp only [BS, ne_eq] at c17
    refine skip ?_
    show Code.wp _ _ _ _ _
    refine seq ?_
    refine block ?_
    refine seq ?_
    refine region ?_
    obtain ⟨x, hx, hd⟩ := drop_of (l := l) (k := k) (by omega)
    obtain ⟨b, o, cs, ha, hlen, hcs, hR⟩ := hel (k) (by omega)
    obtain rfl : x = l[k] := (List.getElem?_eq_some_iff.1 hx).2.symm
    generalize l[k] = x at hx hd hR
    have hR0 := hR
    obtain ⟨rfl, -, -, -⟩ := id hR0
    have hxm := List.mem_of_getElem? hx
    refine sv (yMove h16) ?_
    refine sv (yIxa h14 ha h16 Tryz.runUnderlying22 Tryz.sizeOf41 (by omega) (by omega)) ?_
    refine sv (yLdA rfl Tryz.isAgg41 Tryz.sizeOf41 (hcs.ext hS.ext) rfl) ?_
    refine salloc hS Tryz.zeroValue41 rfl ?_; clear hS; intro b9 w hS
    refine sv (yAsg rfl) ?_
    refine sst hS rfl rfl Tryz.sizeOf41 rfl rfl rfl rfl ?_; clear hS; intro w hS
    refine nil ?_
    show Code.wp _ _ _ _ _
    refine seq ?_
    refine region ?_
    refine sv (yMove h7) ?_
    refine sv (yMove h1) ?_
    refine sv (yLdBA rfl Tryz.isAgg41 Tryz.sizeOf41 (hS.at _) rfl rfl) ?_
    refine scallf rfl hc1 (.cons rfl .nil) (hn x _ _ hxm hS.ext (RChan.stays _ _ _ _ hS.ext hR0)) ?_
    rintro _ w ⟨rfl, hE⟩; replace hS := hS.step hE; clear hE
    refine sv (yLookFOk (F := F) (dec := Value.int .i64) (z := .int .i64 0) rfl rfl Tryz.runUnderlying180 (KeyOk.fnI (keyStr Tryz.underlying9)) Tryz.zeroValue3 (hS.is _) rfl) ?_
    refine sv (yMove rfl) ?_
    refine sv (yExt rfl rfl) ?_
    refine sv (yExt rfl rfl) ?_
    refine sv (yAsg rfl) ?_
    refine sv (yAsg rfl) ?_
    refine nil ?_
    show Code.wp _ _ _ _ _
    refine seq ?_
    refine region ?_
    refine sv (yAsg rfl) ?_
    refine nil ?_
    show Code.wp _ _ _ _ _
    refine seq ?_
    refine block ?_
    refine seq ?_
    refine region ?_
    refine sv (yMove h1) ?_
    refine sv (yLdBA rfl Tryz.isAgg41 Tryz.sizeOf41 (hS.at _) rfl rfl) ?_
    refine scallf rfl hc1 (.cons rfl .nil) (hn x _ _ hxm hS.ext (RChan.stays _ _ _ _ hS.ext hR0)) ?_
    rintro _ w ⟨rfl, hE⟩; replace hS := hS.step hE; clear hE
    refine scall Tryz.call106 (.cons rfl .nil) (c_Name (hsz x hxm)) ?_
    rintro _ w ⟨rfl, hE⟩; replace hS := hS.step hE; clear hE
    refine sv (yNot rfl) ?_
    refine sv (yAsg rfl) ?_
    refine nil ?_
    show Code.wp _ _ _ _ _
    refine cond rfl (fun c32 => ?_) (fun c32 => ?_)
    ·
      refine region ?_
      refine sv (yAsg rfl) ?_
      refine nil ?_
      show Code.wp _ _ _ _ _
      refine seq ?_
      refine seq ?_
      refine region ?_
      refine sv (yMove rfl) ?_
      refine sv (yNeq rfl rfl) ?_
      refine nil ?_
      show Code.wp _ _ _ _ _
      refine cond rfl (fun c41 => ?_) (fun c41 => ?_)
      ·
        simp only [BS, ne_eq] at c41
        refine seq ?_
        refine region ?_
        refine sv (yMove rfl) ?_
        refine sv (yMove rfl) ?_
        refine sv (yBuild Tryz.zeroValue127 rfl pl127 (.cons rfl rfl (.cons rfl rfl .nil)) rfl) ?_
        refine sbox hS rfl rfl ?_; clear hS; intro b45 w hS
        refine sv (yIfaceG rfl Tryz.underlying117 rfl) ?_
        refine sv (yAsg rfl) ?_
        refine nil ?_
        show Code.wp _ _ _ _ _
        refine wp_ret (thenR (blockR (thenR (thenR (blockR (thenR ?_))))))
        refine retQ (res1 rfl rfl) ?_
        have hfin : namedR nm rest l [] 0 = ((k : Int), 6) := by rw [hI, hd, namedR, if_pos c32]
        rw [hfin]
        exact .inr ⟨b45, (by show (6 : Int) ≠ 0; decide), rfl, hS.sub (.cons_cons _ (List.nil_sublist _))⟩
      ·
        simp only [BS, ne_eq] at c41
        exact absurd c41 (by decide)
    ·
      refine seq ?_
      refine region ?_
      refine sv (yMove rfl) ?_
      refine sv (yAsg rfl) ?_
      refine nil ?_
      show Code.wp _ _ _ _ _
      refine cond rfl (fun c38 => ?_) (fun c38 => ?_)
      ·
        rw [hF] at c38
        refine region ?_
        refine sv (yAsg rfl) ?_
        refine nil ?_
        show Code.wp _ _ _ _ _
        refine seq ?_
        refine seq ?_
        refine region ?_
        refine sv (yMove rfl) ?_
        refine sv (yNeq rfl rfl) ?_
        refine nil ?_
        show Code.wp _ _ _ _ _
        refine cond rfl (fun c41 => ?_) (fun c41 => ?_)
        ·
          simp only [BS, ne_eq] at c41
          refine seq ?_
          refine region ?_
          refine sv (yMove rfl) ?_
          refine sv (yMove rfl) ?_
          refine sv (yBuild Tryz.zeroValue127 rfl pl127 (.cons rfl rfl (.cons rfl rfl .nil)) rfl) ?_
          refine sbox hS rfl rfl ?_; clear hS; intro b45 w hS
          refine sv (yIfaceG rfl Tryz.underlying117 rfl) ?_
          refine sv (yAsg rfl) ?_
          refine nil ?_
          show Code.wp _ _ _ _ _
          refine wp_ret (thenR (blockR (thenR (thenR (blockR (thenR ?_))))))
          refine retQ (res1 rfl rfl) ?_
          have hfin : namedR nm rest l [] 0 = ((k : Int), 5) := by rw [hI, hd, namedR, if_neg (by rw [c32]; decide), if_pos c38]
          rw [hfin]
          exact .inr ⟨b45, (by show (5 : Int) ≠ 0; decide), rfl, hS.sub (.cons_cons _ (List.nil_sublist _))⟩
        ·
          simp only [BS, ne_eq] at c41
          exact absurd c41 (by decide)
      ·
        rw [hF] at c38
        refine region ?_
        refine sv (yMove h2) ?_
        refine sv (yLdBA rfl Tryz.isAgg41 Tryz.sizeOf41 (hS.at _) rfl rfl) ?_
        refine scallf rfl hc2 (.cons rfl .nil) (hr x _ _ hxm hS.ext (RChan.stays _ _ _ _ hS.ext hR0)) ?_
        rintro _ w ⟨rfl, hE⟩; replace hS := hS.step hE; clear hE
        refine sv (yAsg rfl) ?_
        refine nil ?_
        show Code.wp _ _ _ _ _
        refine seq ?_
        refine seq ?_
        refine region ?_
        refine sv (yMove rfl) ?_
        refine sv (yNeq rfl rfl) ?_
        refine nil ?_
        show Code.wp _ _ _ _ _
        refine cond rfl (fun c41 => ?_) (fun c41 => ?_)
        ·
          simp only [BS, ne_eq] at c41
          refine seq ?_
          refine region ?_
          refine sv (yMove rfl) ?_
          refine sv (yMove rfl) ?_
          refine sv (yBuild Tryz.zeroValue127 rfl pl127 (.cons rfl rfl (.cons rfl rfl .nil)) rfl) ?_
          refine sbox hS rfl rfl ?_; clear hS; intro b45 w hS
          refine sv (yIfaceG rfl Tryz.underlying117 rfl) ?_
          refine sv (yAsg rfl) ?_
          refine nil ?_
          show Code.wp _ _ _ _ _
          refine wp_ret (thenR (blockR (thenR (thenR (blockR (thenR ?_))))))
          refine retQ (res1 rfl rfl) ?_
          have hfin : namedR nm rest l [] 0 = ((k : Int), rest x) := by rw [hI, hd, namedR, if_neg (by rw [c32]; decide), if_neg (by rw [c38]; decide), if_pos c41]
          rw [hfin]
          exact .inr ⟨b45, c41, rfl, hS.sub (.cons_cons _ (List.nil_sublist _))⟩
        ·
          simp only [BS, ne_eq] at c41
          refine skip ?_
          show Code.wp _ _ _ _ _
          refine region ?_
          refine sv (yMove h7) ?_
          refine sv (yMove h1) ?_
          refine sv (yLdBA rfl Tryz.isAgg41 Tryz.sizeOf41 (hS.at _) rfl rfl) ?_
          refine scallf rfl hc1 (.cons rfl .nil) (hn x _ _ hxm hS.ext (RChan.stays _ _ _ _ hS.ext hR0)) ?_
          rintro _ w ⟨rfl, hE⟩; replace hS := hS.step hE; clear hE
          refine sv (yMove rfl) ?_
          refine smapsetF (enc := Value.string) (dec := Value.int .i64) (u := (k : Int)) hS rfl rfl rfl Tryz.runUnderlying180 (KeyOk.fnI (keyStr Tryz.underlying9)) ?_; clear hS; intro w hS
          refine nil ?_
          show Code.wp _ _ _ _ _
          refine region ?_
          refine sv (yAdd h16 rfl ⟨by omega, by omega⟩) ?_
          refine sv (yMove rfl) ?_
          refine nil ?_
          exact ⟨_, _, rfl, ⟨k + 1, _, h1, h2, h7, h14, h15, rfl, (hS.sub (.cons _ (List.Sublist.refl _))), (by omega), (fun s => by rw [namedR_take hx]; exact fset_seen hF (nm x) k s), (by rw [hI, hd, namedR, if_neg (by rw [c32]; decide), if_neg (by rw [c38]; decide), if_neg (fun h => h c41), namedR_take hx]; rfl), rfl⟩, by omega⟩
  ·
    simp only [BS, ne_eq] at c17
    refine exit ?_
    show Code.wp _ _ _ _ _
    refine seq ?_
    refine region ?_
    refine sv (yAsg rfl) ?_
    refine nil ?_
    show Code.wp _ _ _ _ _
    refine wp_ret ?_
    refine retQ (res1 rfl rfl) ?_
    obtain rfl : k = l.length := by omega
    have hfin : namedR nm rest l [] 0 = (0, 0) := by rw [hI, List.drop_length]; rfl
    rw [hfin]
    exact .inl ⟨rfl, rfl, hS.ext⟩
set_option maxHeartbeats 1000000 in
/-- barrage/alarm.each barrage/api.AlTown  -/
theorem c_eachTown {l : List Town} {v : Value} {g1 g2 : Nat} {k1 k2 : List Value} {nm : Town → ByteArray} {rest : Town → Int} {w0 : World} (hsl : Sl w0 5 RTown v l) (hc1 : ∀ ys w, (callFunc g1 ys).run Tryz.prog w = .ok (.enter g1 ys) w) (hc2 : ∀ ys w, (callFunc g2 ys).run Tryz.prog w = .ok (.enter g2 ys) w) (hn : ∀ x cs w, x ∈ l → Ext w0 w → RTown w cs x → CV Tryz.prog g1 (.agg cs.toArray :: k1).toArray w (.string (nm x))) (hr : ∀ x cs w, x ∈ l → Ext w0 w → RTown w cs x → CV Tryz.prog g2 (.agg cs.toArray :: k2).toArray w (.int .i64 (rest x))) (hsz : ∀ x ∈ l, (nm x).size ≤ 9223372036854775807) : CE Tryz.prog 57 #[v, .func (.func g1) #[] k1.toArray, .func (.func g2) #[] k2.toArray] w0 (fun u w' => ((namedR nm rest l [] 0).2 = 0 ∧ u = .nilIface ∧ Ext w0 w') ∨ ∃ b, (namedR nm rest l [] 0).2 ≠ 0 ∧ u = .iface 117 (.pointer (some ⟨b, 0, none⟩)) ∧ StX [] w0 w' [blk b [.int .i64 (namedR nm rest l [] 0).1, .int .i64 (namedR nm rest l [] 0).2] 127]) := by
  obtain ⟨a, cap, rfl, hcap, hmx, hel⟩ := id hsl
  refine enter Tryz.func57 rfl Tryz.ntmps57 rfl ?_
  have hS := St.start w0
  refine seq ?_
  refine region ?_
  refine sv (yAsg rfl) ?_
  refine nil ?_
  show Code.wp _ _ _ _ _
  refine seq ?_
  refine region ?_
  refine smkmapF Value.string (Value.int .i64) hS ?_; clear hS; intro b13 w hS
  refine sv (yAsg rfl) ?_
  refine nil ?_
  show Code.wp _ _ _ _ _
  refine seq ?_
  refine seq ?_
  refine region ?_
  refine sv (yMove rfl) ?_
  refine sv (yLen rfl Tryz.underlying23) ?_
  refine sv (yMove rfl) ?_
  refine nil ?_
  show Code.wp _ _ _ _ _
  refine block ?_
  refine loop (fun f w zz => ∃ (k : Nat) (F : ByteArray → Option Int), f 1 = .func (.func g1) #[] k1.toArray ∧ f 2 = .func (.func g2) #[] k2.toArray ∧ f 7 = .map (some b13) ∧ f 14 = .slice a l.length cap ∧ f 15 = .int .i64 (l.length : Int) ∧ f 16 = .int .i64 (k : Int) ∧ StX [] w0 w [mapF b13 Value.string (Value.int .i64) F] ∧ (k ≤ l.length) ∧ (∀ s, (F s).isSome = memB s ((l.take k).map nm)) ∧ (namedR nm rest l [] 0 = namedR nm rest (l.drop k) ((l.take k).map nm) k) ∧ zz = l.length - k) _ ⟨_, rfl, 0, _, rfl, rfl, rfl, rfl, rfl, rfl, hS, (Nat.zero_le _), (fun _ => rfl), (rfl), rfl⟩ ?_
  clear hS
  rintro f w _ ⟨k, F, h1, h2, h7, h14, h15, h16, hS, hk, hF, hI, rfl⟩
  refine seq ?_
  refine region ?_
  refine sv (yLss h16 h15) ?_
  refine nil ?_
  show Code.wp _ _ _ _ _
  refine seq ?_
  refine cond rfl (fun c17 => ?_) (fun c17 => ?_)
  ·
    simp only [BS, ne_eq] at c17
    refine skip ?_
    show Code.wp _ _ _ _ _
    refine seq ?_
    refine block ?_
    refine seq ?_
    refine region ?_
    obtain ⟨x, hx, hd⟩ := drop_of (l := l) (k := k) (by omega)
    obtain ⟨b, o, cs, ha, hlen, hcs, hR⟩ := hel (k) (by omega)
    obtain rfl : x = l[k] := (List.getElem?_eq_some_iff.1 hx).2.symm
    generalize l[k] = x at hx hd hR
    have hR0 := hR
    obtain ⟨dv, rfl, -, -, -, -, ⟨ad, cd, rfl, -⟩, -⟩ := id hR0
    have hxm := List.mem_of_getElem? hx
    refine sv (yMove h16) ?_
    refine sv (yIxa h14 ha h16 Tryz.runUnderlying23 Tryz.sizeOf36 (by omega) (by omega)) ?_
    refine sv (yLdA rfl Tryz.isAgg36 Tryz.sizeOf36 (hcs.ext hS.ext) rfl) ?_
    refine salloc hS Tryz.zeroValue36 rfl ?_; clear hS; intro b9 w hS
    refine sv (yAsg rfl) ?_
    refine sst hS rfl rfl Tryz.sizeOf36 rfl rfl rfl rfl ?_; clear hS; intro w hS
    refine nil ?_
    show Code.wp _ _ _ _ _
    refine seq ?_
    refine region ?_
    refine sv (yMove h7) ?_
    refine sv (yMove h1) ?_
    refine sv (yLdBA rfl Tryz.isAgg36 Tryz.sizeOf36 (hS.at _) rfl rfl) ?_
    refine scallf rfl hc1 (.cons rfl .nil) (hn x _ _ hxm hS.ext (RTown.stays _ _ _ _ hS.ext hR0)) ?_
    rintro _ w ⟨rfl, hE⟩; replace hS := hS.step hE; clear hE
    refine sv (yLookFOk (F := F) (dec := Value.int .i64) (z := .int .i64 0) rfl rfl Tryz.runUnderlying180 (KeyOk.fnI (keyStr Tryz.underlying9)) Tryz.zeroValue3 (hS.is _) rfl) ?_
    refine sv (yMove rfl) ?_
    refine sv (yExt rfl rfl) ?_
    refine sv (yExt rfl rfl) ?_
    refine sv (yAsg rfl) ?_
    refine sv (yAsg rfl) ?_
    refine nil ?_
    show Code.wp _ _ _ _ _
    refine seq ?_
    refine region ?_
    refine sv (yAsg rfl) ?_
    refine nil ?_
    show Code.wp _ _ _ _ _
    refine seq ?_
    refine block ?_
    refine seq ?_
    refine region ?_
    refine sv (yMove h1) ?_
    refine sv (yLdBA rfl Tryz.isAgg36 Tryz.sizeOf36 (hS.at _) rfl rfl) ?_
    refine scallf rfl hc1 (.cons rfl .nil) (hn x _ _ hxm hS.ext (RTown.stays _ _ _ _ hS.ext hR0)) ?_
    rintro _ w ⟨rfl, hE⟩; replace hS := hS.step hE; clear hE
    refine scall Tryz.call106 (.cons rfl .nil) (c_Name (hsz x hxm)) ?_
    rintro _ w ⟨rfl, hE⟩; replace hS := hS.step hE; clear hE
    refine sv (yNot rfl) ?_
    refine sv (yAsg rfl) ?_
    refine nil ?_
    show Code.wp _ _ _ _ _
    refine cond rfl (fun c32 => ?_) (fun c32 => ?_)
    ·
      refine region ?_
      refine sv (yAsg rfl) ?_
      refine nil ?_
      show Code.wp _ _ _ _ _
      refine seq ?_
      refine seq ?_
      refine region ?_
      refine sv (yMove rfl) ?_
      refine sv (yNeq rfl rfl) ?_
      refine nil ?_
      show Code.wp _ _ _ _ _
      refine cond rfl (fun c41 => ?_) (fun c41 => ?_)
      ·
        simp only [BS, ne_eq] at c41
        refine seq ?_
        refine region ?_
        refine sv (yMove rfl) ?_
        refine sv (yMove rfl) ?_
        refine sv (yBuild Tryz.zeroValue127 rfl pl127 (.cons rfl rfl (.cons rfl rfl .nil)) rfl) ?_
        refine sbox hS rfl rfl ?_; clear hS; intro b45 w hS
        refine sv (yIfaceG rfl Tryz.underlying117 rfl) ?_
        refine sv (yAsg rfl) ?_
        refine nil ?_
        show Code.wp _ _ _ _ _
        refine wp_ret (thenR (blockR (thenR (thenR (blockR (thenR ?_))))))
        refine retQ (res1 rfl rfl) ?_
        have hfin : namedR nm rest l [] 0 = ((k : Int), 6) := by rw [hI, hd, namedR, if_pos c32]
        rw [hfin]
        exact .inr ⟨b45, (by show (6 : Int) ≠ 0; decide), rfl, hS.sub (.cons_cons _ (List.nil_sublist _))⟩
      ·
        simp only [BS, ne_eq] at c41
        exact absurd c41 (by decide)
    ·
      refine seq ?_
      refine region ?_
      refine sv (yMove rfl) ?_
      refine sv (yAsg rfl) ?_
      refine nil ?_
      show Code.wp _ _ _ _ _
      refine cond rfl (fun c38 => ?_) (fun c38 => ?_)
      ·
        rw [hF] at c38
        refine region ?_
        refine sv (yAsg rfl) ?_
        refine nil ?_
        show Code.wp _ _ _ _ _
        refine seq ?_
        refine seq ?_
        refine region ?_
        refine sv (yMove rfl) ?_
        refine sv (yNeq rfl rfl) ?_
        refine nil ?_
        show Code.wp _ _ _ _ _
        refine cond rfl (fun c41 => ?_) (fun c41 => ?_)
        ·
          simp only [BS, ne_eq] at c41
          refine seq ?_
          refine region ?_
          refine sv (yMove rfl) ?_
          refine sv (yMove rfl) ?_
          refine sv (yBuild Tryz.zeroValue127 rfl pl127 (.cons rfl rfl (.cons rfl rfl .nil)) rfl) ?_
          refine sbox hS rfl rfl ?_; clear hS; intro b45 w hS
          refine sv (yIfaceG rfl Tryz.underlying117 rfl) ?_
          refine sv (yAsg rfl) ?_
          refine nil ?_
          show Code.wp _ _ _ _ _
          refine wp_ret (thenR (blockR (thenR (thenR (blockR (thenR ?_))))))
          refine retQ (res1 rfl rfl) ?_
          have hfin : namedR nm rest l [] 0 = ((k : Int), 5) := by rw [hI, hd, namedR, if_neg (by rw [c32]; decide), if_pos c38]
          rw [hfin]
          exact .inr ⟨b45, (by show (5 : Int) ≠ 0; decide), rfl, hS.sub (.cons_cons _ (List.nil_sublist _))⟩
        ·
          simp only [BS, ne_eq] at c41
          exact absurd c41 (by decide)
      ·
        rw [hF] at c38
        refine region ?_
        refine sv (yMove h2) ?_
        refine sv (yLdBA rfl Tryz.isAgg36 Tryz.sizeOf36 (hS.at _) rfl rfl) ?_
        refine scallf rfl hc2 (.cons rfl .nil) (hr x _ _ hxm hS.ext (RTown.stays _ _ _ _ hS.ext hR0)) ?_
        rintro _ w ⟨rfl, hE⟩; replace hS := hS.step hE; clear hE
        refine sv (yAsg rfl) ?_
        refine nil ?_
        show Code.wp _ _ _ _ _
        refine seq ?_
        refine seq ?_
        refine region ?_
        refine sv (yMove rfl) ?_
        refine sv (yNeq rfl rfl) ?_
        refine nil ?_
        show Code.wp _ _ _ _ _
        refine cond rfl (fun c41 => ?_) (fun c41 => ?_)
        ·
          simp only [BS, ne_eq] at c41
          refine seq ?_
          refine region ?_
          refine sv (yMove rfl) ?_
          refine sv (yMove rfl) ?_
          refine sv (yBuild Tryz.zeroValue127 rfl pl127 (.cons rfl rfl (.cons rfl rfl .nil)) rfl) ?_
          refine sbox hS rfl rfl ?_; clear hS; intro b45 w hS
          refine sv (yIfaceG rfl Tryz.underlying117 rfl) ?_
          refine sv (yAsg rfl) ?_
          refine nil ?_
          show Code.wp _ _ _ _ _
          refine wp_ret (thenR (blockR (thenR (thenR (blockR (thenR ?_))))))
          refine retQ (res1 rfl rfl) ?_
          have hfin : namedR nm rest l [] 0 = ((k : Int), rest x) := by rw [hI, hd, namedR, if_neg (by rw [c32]; decide), if_neg (by rw [c38]; decide), if_pos c41]
          rw [hfin]
          exact .inr ⟨b45, c41, rfl, hS.sub (.cons_cons _ (List.nil_sublist _))⟩
        ·
          simp only [BS, ne_eq] at c41
          refine skip ?_
          show Code.wp _ _ _ _ _
          refine region ?_
          refine sv (yMove h7) ?_
          refine sv (yMove h1) ?_
          refine sv (yLdBA rfl Tryz.isAgg36 Tryz.sizeOf36 (hS.at _) rfl rfl) ?_
          refine scallf rfl hc1 (.cons rfl .nil) (hn x _ _ hxm hS.ext (RTown.stays _ _ _ _ hS.ext hR0)) ?_
          rintro _ w ⟨rfl, hE⟩; replace hS := hS.step hE; clear hE
          refine sv (yMove rfl) ?_
          refine smapsetF (enc := Value.string) (dec := Value.int .i64) (u := (k : Int)) hS rfl rfl rfl Tryz.runUnderlying180 (KeyOk.fnI (keyStr Tryz.underlying9)) ?_; clear hS; intro w hS
          refine nil ?_
          show Code.wp _ _ _ _ _
          refine region ?_
          refine sv (yAdd h16 rfl ⟨by omega, by omega⟩) ?_
          refine sv (yMove rfl) ?_
          refine nil ?_
          exact ⟨_, _, rfl, ⟨k + 1, _, h1, h2, h7, h14, h15, rfl, (hS.sub (.cons _ (List.Sublist.refl _))), (by omega), (fun s => by rw [namedR_take hx]; exact fset_seen hF (nm x) k s), (by rw [hI, hd, namedR, if_neg (by rw [c32]; decide), if_neg (by rw [c38]; decide), if_neg (fun h => h c41), namedR_take hx]; rfl), rfl⟩, by omega⟩
  ·
    simp only [BS, ne_eq] at c17
    refine exit ?_
    show Code.wp _ _ _ _ _
    refine seq ?_
    refine region ?_
    refine sv (yAsg rfl) ?_
    refine nil ?_
    show Code.wp _ _ _ _ _
    refine wp_ret ?_
    refine retQ (res1 rfl rfl) ?_
    obtain rfl : k = l.length := by omega
    have hfin : namedR nm rest l [] 0 = (0, 0) := by rw [hI, List.drop_length]; rfl
    rw [hfin]
    exact .inl ⟨rfl, rfl, hS.ext⟩
end Go.Proofs.YtmoilbakmlekbaaGreatDoor

