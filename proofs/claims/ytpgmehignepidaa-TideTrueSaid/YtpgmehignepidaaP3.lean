/- Levels of the tide: plain laws. -/
import Derived.Test.YtpgmehignepidaaP2
set_option linter.all false
namespace Bx
open Go Go.RowKit
structure Span where
  lo : Int
  hi : Int
deriving DecidableEq
def spanC (s : Span) : List Value := [.int .i64 s.lo, .int .i64 s.hi]
theorem spanC_len (s : Span) : (spanC s).length = 2 := rfl
/-- A number from lo to hi. -/
abbrev Bd (a lo hi : Int) : Prop := lo ≤ a ∧ a ≤ hi
structure ConstOk (c : Const) : Prop where
  den : Bd c.den 1 1000
  step : Bd c.step 1 100000
  slack : Bd c.slack 0 1000
  len : 2 ≤ c.heights.length ∧ c.heights.length ≤ 48
  off : Bd c.off 0 (c.den * c.heights.length - 1)
  heights : ∀ h ∈ c.heights, Bd h (-10000) 10000
structure TableOk (t : Table) : Prop where
  mean : Bd t.mean (-20000) 20000
  len : t.consts.length ≤ 12
  consts : ∀ c ∈ t.consts, ConstOk c
theorem constOk_of {seen : List ByteArray} {c : Const} (h : cErr seen c = 0) : ConstOk c := by
  unfold cErr at h
  split at h
  · exact absurd h (by decide)
  split at h
  · exact absurd h (by decide)
  split at h
  · exact absurd h (by decide)
  rename_i h3
  split at h
  · exact absurd h (by decide)
  rename_i h4
  rw [Bool.not_eq_true, outB_false] at h3
  unfold numsB at h4
  simp only [Bool.not_eq_true, Bool.or_eq_false_iff, outB_false, List.any_eq_false, Bool.not_eq_true] at h4
  obtain ⟨⟨⟨⟨a, b⟩, c'⟩, d⟩, e⟩ := h4
  exact ⟨a, b, c', by omega, d, fun h hh => e h hh⟩
theorem checkL_ok : ∀ (cs : List Const) (seen : List ByteArray) (i : Int), (checkL cs seen i).2 = 0 → ∀ c ∈ cs, ConstOk c
  | [], _, _, _, c, hc => by cases hc
  | d :: cs, seen, i, h, c, hc => by
    unfold checkL at h
    split at h
    · rename_i h1
      exact absurd h h1
    · rename_i h1
      rcases List.mem_cons.1 hc with rfl | hc
      · exact constOk_of (Decidable.not_not.1 h1)
      · exact checkL_ok cs _ _ h c hc
theorem tableOk_of {t : Table} (h : (checkT t).2 = 0) : TableOk t := by
  unfold checkT at h
  split at h
  · exact absurd h (by decide)
  rename_i h1
  split at h
  · exact absurd h (by decide)
  rename_i h2
  rw [Bool.not_eq_true, outB_false] at h1
  exact ⟨h1, by omega, checkL_ok _ _ _ h⟩
/-- Where a constituent stands at a tick. -/
def pAt (c : Const) (tick : Int) : Int := (c.off + c.step * tick) % (c.den * c.heights.length)
def interp (c : Const) (p : Int) : Int := c.heights.getD (p / c.den).toNat 0 * (c.den - p % c.den) + c.heights.getD ((p / c.den + 1) % c.heights.length).toNat 0 * (p % c.den)
def partP (c : Const) (p : Int) : Span := ⟨interp c p / c.den - c.slack, -((-interp c p) / c.den) + c.slack⟩
def addS (a b : Span) : Span := ⟨a.lo + b.lo, a.hi + b.hi⟩
def lvl (mean : Int) (cs : List Const) (tick : Int) : Span := cs.foldl (fun s c => addS s (partP c (pAt c tick))) ⟨mean, mean⟩
def lvlT (t : Table) (tick : Int) : Span := lvl t.mean t.consts tick
theorem lvl_snoc (mean : Int) (cs : List Const) (c : Const) (tick : Int) : lvl mean (cs ++ [c]) tick = addS (lvl mean cs tick) (partP c (pAt c tick)) := by simp [lvl]
theorem lvl_take {t : Table} {k : Nat} {c : Const} (h : t.consts[k]? = some c) (mean tick : Int) : lvl mean (t.consts.take (k + 1)) tick = addS (lvl mean (t.consts.take k) tick) (partP c (pAt c tick)) := by
  obtain ⟨h1, h2⟩ := List.getElem?_eq_some_iff.1 h
  rw [List.take_succ_eq_append_getElem h1, h2, lvl_snoc]
theorem cyc_pos {c : Const} (h : ConstOk c) : 2 ≤ c.den * c.heights.length ∧ c.den * c.heights.length ≤ 48000 := by
  have h1 := cyc_bd (l := c.heights.length) h.den.1 h.den.2 (by have := h.len; omega)
  refine ⟨?_, h1.2⟩
  have : 1 * 2 ≤ c.den * (c.heights.length : Int) := Int.mul_le_mul h.den.1 (by have := h.len; omega) (by omega) (by have := h.den; omega)
  omega
theorem pAt_bd {c : Const} (h : ConstOk c) (tick : Int) : Bd (pAt c tick) 0 (c.den * c.heights.length - 1) := by
  have := cyc_pos h
  exact ⟨Int.emod_nonneg _ (by omega), by have := Int.emod_lt_of_pos (c.off + c.step * tick) (show 0 < c.den * (c.heights.length : Int) by omega); unfold pAt; omega⟩
theorem pAt_succ {c : Const} (tick : Int) : (pAt c tick + c.step) % (c.den * c.heights.length) = pAt c (tick + 1) := by
  unfold pAt
  rw [Int.emod_add_emod, Int.mul_add, Int.mul_one, Int.add_assoc]
theorem quot_bd {c : Const} (h : ConstOk c) {p : Int} (hp : Bd p 0 (c.den * c.heights.length - 1)) : Bd (p / c.den) 0 (c.heights.length - 1) ∧ Bd (p % c.den) 0 (c.den - 1) := by
  have hd := h.den
  refine ⟨⟨Int.ediv_nonneg hp.1 (by omega), ?_⟩, Int.emod_nonneg _ (by omega), by have := Int.emod_lt_of_pos p (show 0 < c.den by omega); omega⟩
  have : p / c.den < c.heights.length := Int.ediv_lt_of_lt_mul (by omega) (by rw [Int.mul_comm]; omega)
  omega
theorem height_bd {c : Const} (h : ConstOk c) (i : Nat) : Bd (c.heights.getD i 0) (-10000) 10000 := by
  rw [List.getD_eq_getElem?_getD]
  cases hx : c.heights[i]? with
  | none => exact ⟨by simp, by simp⟩
  | some x => exact h.heights x (List.mem_of_getElem? hx)
theorem mul_bd {a b A B : Int} (ha : Bd a (-A) A) (hb : Bd b 0 B) (hA : 0 ≤ A) : Bd (a * b) (-(A * B)) (A * B) := by
  have h1 : a * b ≤ A * b := Int.mul_le_mul_of_nonneg_right ha.2 hb.1
  have h2 : A * b ≤ A * B := Int.mul_le_mul_of_nonneg_left hb.2 hA
  have h3 : -A * b ≤ a * b := Int.mul_le_mul_of_nonneg_right ha.1 hb.1
  have h4 : -(A * b) = -A * b := by rw [Int.neg_mul]
  exact ⟨by omega, by omega⟩
theorem interp_bd {c : Const} (h : ConstOk c) {p : Int} (hp : Bd p 0 (c.den * c.heights.length - 1)) : Bd (interp c p) (-(10000 * c.den)) (10000 * c.den) := by
  have hq := quot_bd h hp
  have hd := h.den
  have h1 : Bd (c.heights.getD (p / c.den).toNat 0 * (c.den - p % c.den)) (-(10000 * (c.den - p % c.den))) (10000 * (c.den - p % c.den)) := mul_bd (height_bd h _) ⟨by omega, Int.le_refl _⟩ (by decide)
  have h2 : Bd (c.heights.getD ((p / c.den + 1) % c.heights.length).toNat 0 * (p % c.den)) (-(10000 * (p % c.den))) (10000 * (p % c.den)) := mul_bd (height_bd h _) ⟨by omega, Int.le_refl _⟩ (by decide)
  unfold interp
  exact ⟨by omega, by omega⟩
theorem div_bd {a b A : Int} (hb : 0 < b) (h : Bd a (-(A * b)) (A * b)) : Bd (a / b) (-A) A := by
  refine ⟨?_, ?_⟩
  · refine Int.le_ediv_of_mul_le hb ?_
    rw [Int.neg_mul]; exact h.1
  · have := Int.ediv_le_ediv hb h.2
    rwa [Int.mul_ediv_cancel _ (by omega)] at this
theorem partP_bd {c : Const} (h : ConstOk c) {p : Int} (hp : Bd p 0 (c.den * c.heights.length - 1)) : Bd (partP c p).lo (-11000) 11000 ∧ Bd (partP c p).hi (-11000) 11000 := by
  have hi := interp_bd h hp
  have hd := h.den
  have hs := h.slack
  have h1 := div_bd (A := 10000) (by omega) hi
  have h2 := div_bd (a := -interp c p) (A := 10000) (b := c.den) (by omega) ⟨by omega, by omega⟩
  unfold partP
  exact ⟨⟨by simp only []; omega, by simp only []; omega⟩, ⟨by simp only []; omega, by simp only []; omega⟩⟩
theorem fold_bd (tick : Int) : ∀ (cs : List Const) (s : Span) (A : Int), (∀ c ∈ cs, ConstOk c) → Bd s.lo (-A) A → Bd s.hi (-A) A →
    Bd (cs.foldl (fun s c => addS s (partP c (pAt c tick))) s).lo (-(A + 11000 * cs.length)) (A + 11000 * cs.length) ∧ Bd (cs.foldl (fun s c => addS s (partP c (pAt c tick))) s).hi (-(A + 11000 * cs.length)) (A + 11000 * cs.length)
  | [], s, A, _, h1, h2 => by simp; omega
  | c :: cs, s, A, h, h1, h2 => by
    have hc : ConstOk c := h c (by simp)
    have hp := partP_bd hc (pAt_bd hc tick)
    have ih := fold_bd tick cs (addS s (partP c (pAt c tick))) (A + 11000) (fun x hx => h x (List.mem_cons_of_mem _ hx)) ⟨by simp only [addS]; omega, by simp only [addS]; omega⟩ ⟨by simp only [addS]; omega, by simp only [addS]; omega⟩
    simp only [List.foldl_cons, List.length_cons]
    exact ⟨⟨by omega, by omega⟩, ⟨by omega, by omega⟩⟩
theorem lvl_bd {mean : Int} (hm : Bd mean (-20000) 20000) (cs : List Const) (tick : Int) (h : ∀ c ∈ cs, ConstOk c) : Bd (lvl mean cs tick).lo (-(20000 + 11000 * cs.length)) (20000 + 11000 * cs.length) ∧ Bd (lvl mean cs tick).hi (-(20000 + 11000 * cs.length)) (20000 + 11000 * cs.length) :=
  fold_bd tick cs ⟨mean, mean⟩ 20000 h hm hm
theorem tdiv_floor {a b : Int} (hb : 0 < b) : (if a.tmod b < 0 then a.tdiv b - 1 else a.tdiv b) = a / b := by
  have h1 := Int.tmod_add_mul_tdiv a b
  have h3 := Int.lt_tmod_of_pos a hb
  have h4 := Int.tmod_lt_of_pos a hb
  rcases Int.lt_or_le (a.tmod b) 0 with h | h
  · rw [if_pos h]
    have e : a = a.tmod b + b + b * (a.tdiv b - 1) := by rw [Int.mul_sub, Int.mul_one]; omega
    conv => rhs; rw [e]
    rw [Int.add_mul_ediv_left _ _ (by omega), Int.ediv_eq_zero_of_lt (by omega) (by omega)]
    omega
  · rw [if_neg (by omega)]
    conv => rhs; rw [← h1]
    rw [Int.add_mul_ediv_left _ _ (by omega), Int.ediv_eq_zero_of_lt h h4]
    omega
theorem tdiv_pos {a b : Int} (ha : 0 ≤ a) : a.tdiv b = a / b := Int.tdiv_eq_ediv_of_nonneg ha
theorem tmod_pos {a b : Int} (ha : 0 ≤ a) : a.tmod b = a % b := Int.tmod_eq_emod_of_nonneg ha
/-! ### rows of spans -/
theorem splice_enc {α : Type} {enc : α → List Value} {k : Nat} (hk : ∀ x, (enc x).length = k) : ∀ (l : List α) (i : Nat) (x : α), i < l.length → splice (l.flatMap enc) (i * k) (enc x) = (l.set i x).flatMap enc
  | [], i, x, h => absurd h (Nat.not_lt_zero i)
  | y :: l, 0, x, _ => by
    unfold splice
    rw [Nat.zero_mul, Nat.zero_add, List.take_zero, List.nil_append, List.set_cons_zero, List.flatMap_cons, List.flatMap_cons, hk, ← hk y, List.drop_left]
  | y :: l, i + 1, x, h => by
    have ih := splice_enc hk l i x (by simpa using h)
    unfold splice at ih ⊢
    rw [List.set_cons_succ, List.flatMap_cons, List.flatMap_cons, ← ih]
    have e : (i + 1) * k = (enc y).length + i * k := by rw [hk, Nat.succ_mul]; omega
    rw [e, List.take_length_add_append, Nat.add_assoc, List.drop_length_add_append]
    simp [List.append_assoc]
theorem splice_two (cs : List Value) (o : Nat) (a b : Value) (h : o + 2 ≤ cs.length) : splice (splice cs o [a]) (o + 1) [b] = splice cs o [a, b] := by
  unfold splice
  have e1 : (cs.take o).length = o := by simp; omega
  have e : cs.take o ++ [a] ++ cs.drop (o + [a].length) = cs.take o ++ a :: cs.drop (o + 1) := by simp
  rw [e, take_mid _ _ _ _ e1]
  have := drop_mid (cs.take o) a (cs.drop (o + 1)) o 1 e1
  simp only [List.length_cons, List.length_nil, Nat.zero_add] at this ⊢
  rw [this, List.drop_drop]
  simp
theorem splice_get (cs : List Value) (o : Nat) (a : Value) (h : o + 2 ≤ cs.length) : (splice cs o [a])[o + 1]? = cs[o + 1]? := by
  unfold splice
  have e1 : (cs.take o ++ [a]).length = o + 1 := by simp; omega
  rw [List.getElem?_append_right (by omega), e1, Nat.sub_self, List.getElem?_drop]
  rfl
theorem rep_flat (n : Nat) : (List.replicate n [Value.int .i64 0, Value.int .i64 0]).flatten = (List.replicate n (⟨0, 0⟩ : Span)).flatMap spanC := by
  rw [List.flatMap, List.map_replicate]; rfl
theorem interp_eq (c : Const) (p : Int) : c.heights.getD (p / c.den).toNat 0 * c.den + (c.heights.getD ((p / c.den + 1) % c.heights.length).toNat 0 - c.heights.getD (p / c.den).toNat 0) * (p % c.den) = interp c p := by
  unfold interp
  rw [Int.mul_sub, Int.sub_mul]
  omega
def ticksE (l : List Int) : Int := if (l.any fun a => outB a 0 200000) = true then 7 else 0
def levelF (t : Table) (tick : Int) : Span × Int := if (checkT t).2 ≠ 0 then (⟨0, 0⟩, (checkT t).2) else if ticksE [tick] ≠ 0 then (⟨0, 0⟩, ticksE [tick]) else (lvlT t tick, 0)
theorem ticks1 {a : Int} (h : ticksE [a] = 0) : 0 ≤ a ∧ a ≤ 200000 := by
  unfold ticksE at h
  split at h
  · exact absurd h (by decide)
  · rename_i h1
    simp only [List.any_cons, List.any_nil, Bool.or_false, Bool.not_eq_true, outB_false] at h1
    exact h1
theorem set_get {α : Type} {l : List α} {n k : Nat} {x : α} (hl : l.length = n) (hk : k < n) {A B : Nat → α} (hx : x = A k) (h : ∀ i, i < n → l[i]? = some (if i < k then A i else B i)) : ∀ i, i < n → (l.set k x)[i]? = some (if i < k + 1 then A i else B i) := by
  intro i hi
  rw [List.getElem?_set]
  by_cases e : k = i
  · subst e; simp [hx, hl, hk]
  · rw [if_neg e, h i hi]
    by_cases h1 : i < k
    · simp [h1, show i < k + 1 by omega]
    · simp [h1, show ¬ i < k + 1 by omega]
theorem list_eq {α : Type} {l : List α} {n : Nat} {A : Nat → α} (hl : l.length = n) (h : ∀ i, i < n → l[i]? = some (A i)) : l = (List.range n).map A := by
  apply List.ext_getElem?
  intro i
  rcases Nat.lt_or_ge i n with hi | hi
  · rw [h i hi]; simp [hi]
  · rw [List.getElem?_eq_none (by omega), List.getElem?_eq_none (by simp; omega)]
theorem tdiv_bd {a b : Int} (_ : 0 < b) (ha : Bd a (-1000000000000) 1000000000000) : Bd (a.tdiv b) (-1000000000000) 1000000000000 := by
  have := Int.natAbs_tdiv_le_natAbs a b
  exact ⟨by omega, by omega⟩
theorem lvl1 (t : Table) (tick : Int) : (((List.range 1).map fun (i : Nat) => lvlT t (tick + i)).flatMap spanC) = spanC (lvlT t tick) := by
  simp [List.range_succ]
end Bx
