/- Levels between: wider slacks, integers near the interpolated heights. -/
import Derived.Test.YtpgmehignepidaaP8
set_option linter.all false
namespace Bx
open Go Go.RowKit
theorem sl_of_row {α : Type} {w : World} {e : TypeId} {k n : Nat} {R : World → List Value → α → Prop} {css : List (List Value)} {l : List α} {v : Value} (h : w.ownsRow 0 e k v n css.flatten) (hr : Rows w k R css l) (hn : l.length = n) : Sl w k R v l := by
  subst hn
  rcases h.2 with ⟨rfl, h0⟩ | ⟨g, cap, cur, rfl, _, hg, hc, hm, _, ht⟩
  · obtain rfl : l = [] := List.eq_nil_of_length_eq_zero h0
    exact Sl.nil
  · refine ⟨_, cap, rfl, hc, by simp only [maxLen] at hm; omega, fun i hi => ?_⟩
    obtain ⟨cs, _, e2, e3, e4⟩ := hr.get i hi
    refine ⟨g, 0, cs, rfl, e2, fun j u hu => ?_, e3⟩
    have hj : j < k := by have := (List.getElem?_eq_some_iff.1 hu).1; omega
    have h5 := (e4 j hj).trans hu
    have hlt : i * k + j < l.length * k := by
      have := (List.getElem?_eq_some_iff.1 h5).1
      rwa [h.1] at this
    rw [← ht, List.getElem?_take, if_pos hlt] at h5
    rw [Nat.zero_add, World.cell?, hg]
    simpa using h5
theorem flat_snoc (css : List (List Value)) (cs : List Value) : (css ++ [cs]).flatten = css.flatten ++ cs := by simp
theorem Rows.snoc {α : Type} {w : World} {k : Nat} {R : World → List Value → α → Prop} : ∀ {css : List (List Value)} {l : List α} {cs : List Value} {x : α}, Rows w k R css l → cs.length = k → R w cs x → Rows w k R (css ++ [cs]) (l ++ [x])
  | [], [], cs, x, _, h1, h2 => ⟨h1, h2, trivial⟩
  | c :: css, y :: l, cs, x, ⟨a, b, c'⟩, h1, h2 => ⟨a, b, Rows.snoc c' h1 h2⟩
  | [], _ :: _, _, _, h, _, _ => h.elim
  | _ :: _, [], _, _, h, _, _ => h.elim
theorem Rows.ext {α : Type} {w w' : World} {k : Nat} {R : World → List Value → α → Prop} (hR : Stays R) (e : Ext w w') : ∀ {css : List (List Value)} {l : List α}, Rows w k R css l → Rows w' k R css l
  | [], [], _ => trivial
  | c :: css, y :: l, ⟨a, b, c'⟩ => ⟨a, hR _ _ _ _ e b, Rows.ext hR e c'⟩
  | [], _ :: _, h => h.elim
  | _ :: _, [], h => h.elim
theorem levelF_zero {t : Table} {tick : Int} (h : (levelF t tick).2 = 0) : (checkT t).2 = 0 ∧ Bd tick 0 200000 ∧ (levelF t tick).1 = lvlT t tick := by
  unfold levelF at h ⊢
  split at h
  · rename_i h1; exact absurd h h1
  rename_i h1
  split at h
  · rename_i h2; exact absurd h h2
  rename_i h2
  rw [if_neg h1, if_neg h2]
  exact ⟨Decidable.not_not.1 h1, ticks1 (Decidable.not_not.1 h2), rfl⟩
theorem levelF_ok {t : Table} {tick : Int} (h : (checkT t).2 = 0) (ht : Bd tick 0 200000) : levelF t tick = (lvlT t tick, 0) := by
  unfold levelF
  rw [if_neg (fun k => k h), if_neg]
  intro k
  apply k
  unfold ticksE
  rw [if_neg]
  simp only [List.any_cons, List.any_nil, Bool.or_false, Bool.not_eq_true, outB_false]
  exact ht
/-! ### wider slacks -/
def wide (j : Nat) (c : Const) : Const := { c with slack := min 1000 (c.slack + 1 + j) }
def wides : Nat → List Const → List Const
  | _, [] => []
  | j, c :: cs => wide j c :: wides (j + 1) cs
theorem wides_snoc (c : Const) : ∀ (l : List Const) (j : Nat), wides j (l ++ [c]) = wides j l ++ [wide (j + l.length) c]
  | [], j => by simp [wides]
  | x :: l, j => by simp [wides, wides_snoc c l (j + 1), show j + 1 + l.length = j + (l.length + 1) by omega]
theorem wides_len : ∀ (l : List Const) (j : Nat), (wides j l).length = l.length
  | [], _ => rfl
  | x :: l, j => by simp [wides, wides_len l (j + 1)]
theorem numsB_false {c : Const} : numsB c = false ↔ Bd c.den 1 1000 ∧ Bd c.step 1 100000 ∧ Bd c.slack 0 1000 ∧ Bd c.off 0 (c.den * c.heights.length - 1) ∧ (c.heights.any fun h => outB h (-10000) 10000) = false := by
  simp only [numsB, Bool.or_eq_false_iff, outB_false, and_assoc]
theorem cErr_wide {seen : List ByteArray} {c : Const} (j : Nat) (h : cErr seen c = 0) : cErr seen (wide j c) = 0 := by
  unfold cErr at h ⊢
  split at h
  · exact absurd h (by decide)
  rename_i h1
  split at h
  · exact absurd h (by decide)
  rename_i h2
  split at h
  · exact absurd h (by decide)
  rename_i h3
  split at h
  · exact absurd h (by decide)
  rename_i h4
  rw [if_neg (by exact h1), if_neg (by exact h2), if_neg (by exact h3), if_neg]
  rw [Bool.not_eq_true, numsB_false] at h4 ⊢
  obtain ⟨a, b, c1, d, e⟩ := h4
  exact ⟨a, b, ⟨by show 0 ≤ min 1000 _; omega, by show min 1000 _ ≤ _; omega⟩, d, e⟩
theorem checkL_wide : ∀ (cs : List Const) (seen : List ByteArray) (i : Int) (j : Nat), (checkL cs seen i).2 = 0 → (checkL (wides j cs) seen i).2 = 0
  | [], _, _, _, _ => rfl
  | c :: cs, seen, i, j, h => by
    unfold checkL at h
    split at h
    · rename_i h1; exact absurd h h1
    · rename_i h1
      show (checkL (wide j c :: wides (j + 1) cs) seen i).2 = 0
      unfold checkL
      rw [if_neg (fun k => k (cErr_wide j (Decidable.not_not.1 h1)))]
      exact checkL_wide cs _ _ _ h
theorem checkT_wide {t : Table} (h : (checkT t).2 = 0) : (checkT ⟨t.mean, wides 0 t.consts⟩).2 = 0 := by
  unfold checkT at h ⊢
  split at h
  · exact absurd h (by decide)
  rename_i h1
  split at h
  · exact absurd h (by decide)
  rename_i h2
  rw [if_neg (by exact h1), if_neg (by rw [show (⟨t.mean, wides 0 t.consts⟩ : Table).consts = wides 0 t.consts from rfl, wides_len]; exact h2)]
  exact checkL_wide _ _ _ _ h
theorem fold_within (tick : Int) : ∀ (cs : List Const) (j : Nat) (s u : Span), (∀ c ∈ cs, ConstOk c) → Within s u → Within (cs.foldl (fun s c => addS s (partP c (pAt c tick))) s) ((wides j cs).foldl (fun s c => addS s (partP c (pAt c tick))) u)
  | [], _, _, _, _, h => h
  | c :: cs, j, s, u, hc, h => by
    rw [wides, List.foldl_cons, List.foldl_cons]
    refine fold_within tick cs (j + 1) _ _ (fun x hx => hc x (List.mem_cons_of_mem _ hx)) ?_
    have := (hc c (List.mem_cons_self ..)).slack
    have e : pAt (wide j c) tick = pAt c tick := rfl
    have e1 : interp (wide j c) (pAt c tick) = interp c (pAt c tick) := rfl
    have e2 : (wide j c).den = c.den := rfl
    have e3 : (wide j c).slack = min 1000 (c.slack + 1 + j) := rfl
    unfold Within at h ⊢
    unfold addS partP
    rw [e, e1, e2, e3]
    simp only []
    constructor <;> omega
theorem lvl_within {t : Table} (ht : TableOk t) (tick : Int) : Within (lvlT t tick) (lvlT ⟨t.mean, wides 0 t.consts⟩ tick) :=
  fold_within tick t.consts 0 _ _ ht.consts ⟨Int.le_refl _, Int.le_refl _⟩
/-! ### integers near a quotient -/
theorem between_A {h d s x : Int} (hd : 1 ≤ d) (h1 : x * d - h ≤ s * d) (h2 : h - x * d ≤ s * d) : h / d - s ≤ x ∧ x ≤ -((-h) / d) + s := by
  constructor
  · have : h / d < x + s + 1 := Int.ediv_lt_of_lt_mul (by omega) (by rw [Int.add_mul, Int.add_mul]; omega)
    omega
  · have : (-h) / d < -x + s + 1 := Int.ediv_lt_of_lt_mul (by omega) (by rw [Int.add_mul, Int.add_mul, Int.neg_mul]; omega)
    omega
theorem between_B {h d s : Int} (hd : 1 ≤ d) (hs : 0 ≤ s) : h / d - s ≤ h.tdiv d ∧ h.tdiv d ≤ -((-h) / d) + s := by
  rcases Int.le_total 0 h with h0 | h0
  · rw [Int.tdiv_eq_ediv_of_nonneg h0]
    refine ⟨by omega, ?_⟩
    have : (-h) / d ≤ -(h / d) := by
      have e := Int.mul_ediv_add_emod h d
      have e2 := Int.emod_nonneg h (show d ≠ 0 by omega)
      refine Int.ediv_le_of_le_mul (by omega) ?_
      rw [Int.neg_mul, Int.mul_comm]; omega
    omega
  · have e : h.tdiv d = -((-h) / d) := by
      rw [← Int.tdiv_eq_ediv_of_nonneg (show 0 ≤ -h by omega), Int.neg_tdiv, Int.neg_neg]
    rw [e]
    refine ⟨?_, by omega⟩
    have : h / d ≤ -((-h) / d) := by
      have e := Int.mul_ediv_add_emod (-h) d
      have e2 := Int.emod_nonneg (-h) (show d ≠ 0 by omega)
      refine Int.ediv_le_of_le_mul (by omega) ?_
      rw [Int.neg_mul, Int.mul_comm]; omega
    omega
theorem sum_take {t : Table} {k : Nat} {c : Const} {tick sum x : Int} (h : t.consts[k]? = some c) (hs : Bd sum (lvl t.mean (t.consts.take k) tick).lo (lvl t.mean (t.consts.take k) tick).hi) (hx : (partP c (pAt c tick)).lo ≤ x ∧ x ≤ (partP c (pAt c tick)).hi) :
    Bd (sum + x) (lvl t.mean (t.consts.take (k + 1)) tick).lo (lvl t.mean (t.consts.take (k + 1)) tick).hi := by
  rw [lvl_take h]
  unfold addS
  exact ⟨by simp only []; omega, by simp only []; omega⟩
end Bx
