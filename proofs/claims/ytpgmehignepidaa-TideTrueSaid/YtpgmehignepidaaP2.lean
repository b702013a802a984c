/- The data of layer 1: tables, and how they read. -/
import Derived.Test.YtpgmehignepidaaLib7
import Derived.Test.YtpgmehignepidaaP1
set_option linter.all false
namespace Bx
open Go Go.RowKit
structure Const where
  name : ByteArray
  heights : List Int
  off : Int
  step : Int
  den : Int
  slack : Int
structure Table where
  mean : Int
  consts : List Const
def RConst (w : World) (cs : List Value) (c : Const) : Prop := ∃ hv, cs = [.string c.name, hv, .int .i64 c.off, .int .i64 c.step, .int .i64 c.den, .int .i64 c.slack] ∧ c.name.size ≤ 9223372036854775807 ∧ Sl w 1 RInt hv c.heights ∧ I64 c.off ∧ I64 c.step ∧ I64 c.den ∧ I64 c.slack
theorem RConst.stays : Stays RConst := fun _ _ _ _ e ⟨hv, h1, h2, h3, h4⟩ => ⟨hv, h1, h2, h3.ext RInt.stays e, h4⟩
def RTable (w : World) (cs : List Value) (t : Table) : Prop := ∃ cv, cs = [.int .i64 t.mean, cv] ∧ I64 t.mean ∧ Sl w 6 RConst cv t.consts
theorem RTable.stays : Stays RTable := fun _ _ _ _ e ⟨cv, h1, h2, h3⟩ => ⟨cv, h1, h2, h3.ext RConst.stays e⟩

theorem RTable.ext {w w' : World} {cs : List Value} {t : Table} (h : RTable w cs t) (e : Ext w w') : RTable w' cs t := RTable.stays _ _ _ _ e h

/-! ### what is wrong with a table -/
def outB (a lo hi : Int) : Bool := decide (a < lo) || decide (hi < a)
theorem outB_false {a lo hi : Int} : outB a lo hi = false ↔ lo ≤ a ∧ a ≤ hi := by
  simp only [outB, Bool.or_eq_false_iff, decide_eq_false_iff_not]; omega
theorem outB_true {a lo hi : Int} : outB a lo hi = true ↔ a < lo ∨ hi < a := by
  simp only [outB, Bool.or_eq_true, decide_eq_true_eq]
def inB (a lo hi : Int) : Bool := decide (lo ≤ a) && decide (a ≤ hi)
theorem inB_iff {a lo hi : Int} : inB a lo hi = true ↔ lo ≤ a ∧ a ≤ hi := by simp only [inB, Bool.and_eq_true, decide_eq_true_eq]
theorem outB_inB (a lo hi : Int) : outB a lo hi = !inB a lo hi := by
  rw [Bool.eq_iff_iff]
  simp only [outB_true, Bool.not_eq_true', ← Bool.not_eq_true, inB_iff]
  omega
def memB (k : ByteArray) : List ByteArray → Bool
  | [] => false
  | s :: l => decide (k = s) || memB k l
theorem memB_iff {k : ByteArray} : ∀ {l : List ByteArray}, memB k l = true ↔ k ∈ l
  | [] => by simp [memB]
  | s :: l => by simp [memB, memB_iff (l := l)]
def numsB (c : Const) : Bool := outB c.den 1 1000 || outB c.step 1 100000 || outB c.slack 0 1000 || outB c.off 0 (c.den * c.heights.length - 1) || c.heights.any (fun h => outB h (-10000) 10000)
def cErr (seen : List ByteArray) (c : Const) : Int :=
  if (!isName c.name) = true then 6 else if memB c.name seen = true then 5 else if outB c.heights.length 2 48 = true then 3 else if numsB c = true then 7 else 0
def checkL : List Const → List ByteArray → Int → Int × Int
  | [], _, _ => (0, 0)
  | c :: cs, seen, i => if cErr seen c ≠ 0 then (i, cErr seen c) else checkL cs (seen ++ [c.name]) (i + 1)
def checkT (t : Table) : Int × Int := if outB t.mean (-20000) 20000 = true then (-1, 7) else if (12 : Int) < t.consts.length then (-1, 3) else checkL t.consts [] 0
def tErr (t : Table) : Int := if outB t.mean (-20000) 20000 = true then 7 else if decide ((12 : Int) < t.consts.length) = true then 3 else 0
theorem tErr_eq (t : Table) (g1 g2 : Nat) (k1 k2 : List Value) : firstE [⟨g1, k1, 7, outB t.mean (-20000) 20000⟩, ⟨g2, k2, 3, decide ((12 : Int) < t.consts.length)⟩] = tErr t := rfl
theorem cErr_eq (seen : List ByteArray) (c : Const) (g1 g2 g3 g4 : Nat) (k1 k2 k3 k4 : List Value) :
    firstE [⟨g1, k1, 6, !isName c.name⟩, ⟨g2, k2, 5, memB c.name seen⟩, ⟨g3, k3, 3, outB c.heights.length 2 48⟩, ⟨g4, k4, 7, numsB c⟩] = cErr seen c := rfl
theorem checkT_bad {t : Table} (h : tErr t ≠ 0) : checkT t = (-1, tErr t) := by
  unfold tErr at h ⊢
  unfold checkT
  by_cases h1 : outB t.mean (-20000) 20000 = true
  · rw [if_pos h1, if_pos h1]
  · rw [if_neg h1] at h ⊢
    rw [if_neg h1]
    by_cases h2 : (12 : Int) < t.consts.length
    · rw [if_pos h2, if_pos (decide_eq_true h2)]
    · rw [if_neg (by simpa using h2)] at h
      exact absurd rfl h
theorem checkT_good {t : Table} (h : tErr t = 0) : checkT t = checkL t.consts [] 0 ∧ t.consts.length ≤ 12 := by
  unfold tErr at h
  unfold checkT
  by_cases h1 : outB t.mean (-20000) 20000 = true
  · rw [if_pos h1] at h; exact absurd h (by decide)
  · rw [if_neg h1] at h
    rw [if_neg h1]
    by_cases h2 : (12 : Int) < t.consts.length
    · rw [if_pos (decide_eq_true h2)] at h; exact absurd h (by decide)
    · rw [if_neg h2]; exact ⟨rfl, by omega⟩
theorem cErr_seen {seen : List ByteArray} {c : Const} (h : cErr seen c = 0) : c.name ∉ seen := by
  intro hm
  unfold cErr at h
  split at h
  · exact absurd h (by decide)
  · rw [if_pos (memB_iff.2 hm)] at h
    exact absurd h (by decide)
theorem take_names {l : List Const} {k : Nat} {c : Const} (h : l[k]? = some c) : (l.take (k + 1)).map (·.name) = (l.take k).map (·.name) ++ [c.name] := by
  have := (List.getElem?_eq_some_iff.1 h)
  obtain ⟨h1, h2⟩ := this
  rw [List.take_succ_eq_append_getElem h1, List.map_append, h2]
  rfl
theorem cyc_bd {d : Int} {l : Nat} (h1 : 1 ≤ d) (h2 : d ≤ 1000) (h3 : (l : Int) ≤ 48) : 0 ≤ d * l ∧ d * l ≤ 48000 := by
  have a : 0 ≤ (l : Int) := by omega
  refine ⟨Int.mul_nonneg (by omega) a, ?_⟩
  calc d * l ≤ 1000 * l := Int.mul_le_mul_of_nonneg_right h2 a
    _ ≤ 48000 := by omega
theorem memB_snoc (x y : ByteArray) : ∀ l : List ByteArray, memB x (l ++ [y]) = (memB x l || decide (x = y))
  | [] => by simp [memB]
  | z :: l => by simp [memB, memB_snoc x y l, Bool.or_assoc]
def baseB (c : Const) : Bool := inB c.den 1 1000 && inB c.step 1 100000 && inB c.slack 0 1000
def heightsB (l : List Int) : Bool := l.all fun h => inB h (-10000) 10000
theorem heightsB_any (l : List Int) : l.any (fun h => outB h (-10000) 10000) = !heightsB l := by
  unfold heightsB
  induction l with
  | nil => rfl
  | cons x l ih => rw [List.any_cons, List.all_cons, ih, outB_inB, Bool.not_and]
theorem heightsB_snoc {l : List Int} {k : Nat} {h : Int} (hk : l[k]? = some h) : heightsB (l.take (k + 1)) = (heightsB (l.take k) && inB h (-10000) 10000) := by
  obtain ⟨h1, h2⟩ := List.getElem?_eq_some_iff.1 hk
  unfold heightsB
  rw [List.take_succ_eq_append_getElem h1, List.all_append, h2]
  simp
theorem numsB_eq (c : Const) : ((!(baseB c && heightsB c.heights)) || !inB c.off 0 (c.den * c.heights.length - 1)) = numsB c := by
  unfold numsB baseB
  rw [heightsB_any, outB_inB, outB_inB, outB_inB, outB_inB]
  cases inB c.den 1 1000 <;> cases inB c.step 1 100000 <;> cases inB c.slack 0 1000 <;> cases heightsB c.heights <;> cases inB c.off 0 (c.den * c.heights.length - 1) <;> rfl
theorem base_den {c : Const} {b : Bool} (h : (!(baseB c && b)) = false) : 1 ≤ c.den ∧ c.den ≤ 1000 := by
  simp only [baseB, Bool.not_eq_false', Bool.and_eq_true, inB_iff] at h
  exact h.1.1.1
theorem cErr6 {seen : List ByteArray} {c : Const} (h : isName c.name = false) : cErr seen c = 6 := by unfold cErr; rw [if_pos (by rw [h]; rfl)]
theorem cErr5 {seen : List ByteArray} {c : Const} (h : isName c.name = true) (h2 : memB c.name seen = true) : cErr seen c = 5 := by unfold cErr; rw [if_neg (by rw [h]; decide), if_pos h2]
theorem cErr3 {seen : List ByteArray} {c : Const} (h : isName c.name = true) (h2 : memB c.name seen = false) (h3 : ¬ (2 ≤ (c.heights.length : Int) ∧ (c.heights.length : Int) ≤ 48)) : cErr seen c = 3 := by
  unfold cErr; rw [if_neg (by rw [h]; decide), if_neg (by rw [h2]; decide), if_pos (by rw [outB_true]; omega)]
theorem cErr7 {seen : List ByteArray} {c : Const} (h : isName c.name = true) (h2 : memB c.name seen = false) (h3 : 2 ≤ (c.heights.length : Int) ∧ (c.heights.length : Int) ≤ 48) : cErr seen c = if numsB c = true then 7 else 0 := by
  unfold cErr; rw [if_neg (by rw [h]; decide), if_neg (by rw [h2]; decide), if_neg (by rw [Bool.not_eq_true, outB_false]; exact h3)]
theorem mem_take {l : List Const} {k i : Nat} {c d : Const} (hk : l[k]? = some d) (hi : k < i) (h : d.name = c.name) : memB c.name ((l.take i).map (·.name)) = true := by
  rw [memB_iff, ← h]
  refine List.mem_map.2 ⟨d, ?_, rfl⟩
  exact List.mem_of_getElem? (i := k) (by rw [List.getElem?_take, if_pos hi]; exact hk)
def idxF {α : Type} (p : α → Bool) : List α → Int → Int
  | [], _ => -1
  | x :: xs, i => if p x = true then i else idxF p xs (i + 1)
theorem idxF_any {α : Type} (p : α → Bool) : ∀ (l : List α) (i : Int), 0 ≤ i → decide (0 ≤ idxF p l i) = l.any p
  | [], i, _ => by simp [idxF]
  | x :: xs, i, h => by
    simp only [idxF, List.any_cons]
    by_cases hx : p x = true
    · simp [hx, h]
    · simp only [hx, if_false, Bool.false_or, Bool.false_eq_true]
      exact idxF_any p xs (i + 1) (by omega)
def seenM (seen : List ByteArray) : List (ByteArray × Value) := seen.map fun s => (s, .bool true)
theorem getM_seen (seen : List ByteArray) (k : ByteArray) : (getM (seenM seen) k).getD (.bool false) = .bool (memB k seen) := by
  unfold seenM
  induction seen with
  | nil => simp [getM, memB]
  | cons s seen ih =>
    simp only [List.map_cons, getM, memB]
    by_cases h : k = s
    · simp [h]
    · simp only [h, if_false, decide_false, Bool.false_or]; exact ih
theorem setM_seen (seen : List ByteArray) (k : ByteArray) (h : k ∉ seen) : setM (seenM seen) k (.bool true) = seenM (seen ++ [k]) := by
  unfold seenM
  induction seen with
  | nil => simp [setM]
  | cons s seen ih =>
    simp only [List.mem_cons, not_or] at h
    simp only [List.map_cons, List.cons_append, setM, h.1, if_false]
    rw [ih h.2]
end Bx
