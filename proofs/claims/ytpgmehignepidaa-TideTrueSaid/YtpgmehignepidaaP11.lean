/- Lists of levels, the highest ones. -/
import Derived.Test.YtpgmehignepidaaP10
set_option linter.all false
namespace Bx
open Go Go.RowKit
def encI (n : Int) : List Value := [.int .i64 n]
theorem encI_len (n : Int) : (encI n).length = 1 := rfl
theorem levelsE_bad {t : Table} {a n : Int} (h : (checkT t).2 ≠ 0) : levelsE t a n = (checkT t).2 := by unfold levelsE; rw [if_neg h]
theorem levelsE_good {t : Table} {a n : Int} (h : (checkT t).2 = 0) : levelsE t a n = someE a n := by unfold levelsE; rw [if_pos h]
theorem levelsF_bad {t : Table} {a n : Int} (h : levelsE t a n ≠ 0) : levelsF t a n = [] := by unfold levelsF; rw [if_pos h]
theorem levelsF_good {t : Table} {a n : Int} (h : levelsE t a n = 0) : levelsF t a n = lvlsL t a n.toNat := by unfold levelsF; rw [if_neg (fun k => k h)]
theorem levelsE_zero {t : Table} {a n : Int} (h : levelsE t a n = 0) : (checkT t).2 = 0 ∧ Bd n 0 400 ∧ (n ≠ 0 → Bd a 0 200000 ∧ Bd (a + n - 1) 0 200000) := by
  by_cases h1 : (checkT t).2 = 0
  · rw [levelsE_good h1] at h
    exact ⟨h1, someE_zero h⟩
  · rw [levelsE_bad h1] at h
    exact absurd h h1
theorem sl_spans {w : World} {e : TypeId} {v : Value} {n : Nat} {l : List Span} (h : w.ownsRow 0 e 2 v n (l.flatMap spanC)) (hn : l.length = n) (hok : ∀ s ∈ l, I64 s.lo ∧ I64 s.hi) : Sl w 2 RSpan v l := by
  subst hn
  exact row_sl spanC_len h hok
theorem sl_ints {w : World} {e : TypeId} {v : Value} {n : Nat} {l : List Int} (h : w.ownsRow 0 e 1 v n (l.flatMap encI)) (hn : l.length = n) (hok : ∀ s ∈ l, I64 s) : Sl w 1 RInt v l := by
  subst hn
  exact row_sl encI_len h hok
theorem lvlsL_succ (t : Table) (a : Int) (k : Nat) : lvlsL t a (k + 1) = lvlsL t a k ++ [lvlT t (a + k)] := by simp [lvlsL, List.range_succ]
theorem eq_of_get {α : Type} {a b : List α} (hl : a.length = b.length) (h : ∀ i, i < a.length → a[i]? = b[i]?) : a = b := by
  apply List.ext_getElem?
  intro i
  rcases Nat.lt_or_ge i a.length with h1 | h1
  · exact h i h1
  · rw [List.getElem?_eq_none h1, List.getElem?_eq_none (by omega)]
theorem ne_of_get {α : Type} {a b : List α} {k : Nat} {x y : α} (ha : a[k]? = some x) (hb : b[k]? = some y) (h : x ≠ y) : a ≠ b := by
  rintro rfl
  rw [ha] at hb
  exact h (Option.some.inj hb)
/-! ### the highest -/
def canB (l : List Span) (i : Nat) : Bool := l.all fun s => decide (s.lo ≤ (l.getD i ⟨0, 0⟩).hi)
def highsK (l : List Span) (a : Int) (k : Nat) : List Int := ((List.range k).filter fun i => canB l i).map fun i => a + ((i : Nat) : Int)
def highF (t : Table) (a n : Int) : List Int := if levelsE t a n ≠ 0 then [] else highsK (levelsF t a n) a (levelsF t a n).length
theorem highsK_in {l : List Span} {a : Int} {k : Nat} (h : canB l k = true) : highsK l a (k + 1) = highsK l a k ++ [a + k] := by simp [highsK, List.range_succ, List.filter_append, h]
theorem highsK_out {l : List Span} {a : Int} {k : Nat} (h : canB l k = false) : highsK l a (k + 1) = highsK l a k := by simp [highsK, List.range_succ, List.filter_append, h]
theorem highsK_len (l : List Span) (a : Int) (k : Nat) : (highsK l a k).length ≤ k := by
  unfold highsK
  rw [List.length_map]
  have := List.length_filter_le (fun i => canB l i) (List.range k)
  simpa using this
theorem canB_max {l : List Span} {m s : Span} {k : Nat} (hm : m ∈ l) (hall : ∀ s ∈ l, s.lo ≤ m.lo) (hk : l[k]? = some s) : canB l k = decide (m.lo ≤ s.hi) := by
  unfold canB
  rw [show l.getD k ⟨0, 0⟩ = s by rw [List.getD_eq_getElem?_getD, hk]; rfl, Bool.eq_iff_iff]
  simp only [List.all_eq_true, decide_eq_true_eq]
  exact ⟨fun h => h m hm, fun h x hx => by have := hall x hx; omega⟩
theorem highsK_mem {l : List Span} {a : Int} {k : Nat} : ∀ x ∈ highsK l a k, ∃ i : Nat, x = a + i ∧ i < k ∧ canB l i = true := by
  intro x hx
  unfold highsK at hx
  obtain ⟨i, hi, rfl⟩ := List.mem_map.1 hx
  rw [List.mem_filter, List.mem_range] at hi
  exact ⟨i, rfl, hi.1, hi.2⟩
def allK (l : List Span) (h : Int) (k : Nat) : Bool := (l.take k).all fun s => decide (s.lo ≤ h)
theorem allK_succ {l : List Span} {h : Int} {k : Nat} {s : Span} (hs : l[k]? = some s) : allK l h (k + 1) = (allK l h k && decide (s.lo ≤ h)) := by
  unfold allK
  rw [take_snoc hs, List.all_append]
  simp
theorem allK_all {l : List Span} {k : Nat} {s : Span} (hs : l[k]? = some s) : allK l s.hi l.length = canB l k := by
  unfold allK canB
  rw [List.take_length, show l.getD k ⟨0, 0⟩ = s by rw [List.getD_eq_getElem?_getD, hs]; rfl]
end Bx

namespace Bx
open Go Go.RowKit
theorem levelsF_ok {t : Table} {a n : Int} : ∀ s ∈ levelsF t a n, I64 s.lo ∧ I64 s.hi := by
  by_cases h : levelsE t a n = 0
  · rw [levelsF_good h]
    exact lvlsL_ok (tableOk_of (levelsE_zero h).1) a _
  · rw [levelsF_bad h]
    intro s hs; cases hs
theorem highF_ok {t : Table} {a n : Int} : ∀ x ∈ highF t a n, I64 x := by
  intro x hx
  unfold highF at hx
  split at hx
  · cases hx
  · rename_i h
    have hz := Decidable.not_not.1 h
    obtain ⟨_, h2, h3⟩ := levelsE_zero hz
    have hl : (levelsF t a n).length = n.toNat := by rw [levelsF_good hz, lvlsL_len]
    obtain ⟨i, rfl, hi, _⟩ := highsK_mem x hx
    have := h3 (by omega)
    exact ⟨by omega, by omega⟩
theorem row_shape {w : World} {e : TypeId} {k n : Nat} {v : Value} {xs : List Value} (h : w.ownsRow 0 e k v n xs) : ∃ a cap, v = .slice a n cap := by
  rcases h.2 with ⟨rfl, rfl⟩ | ⟨g, cap, cur, rfl, _⟩
  · exact ⟨_, _, rfl⟩
  · exact ⟨_, _, rfl⟩
theorem row_get {w : World} {e : TypeId} {k n cap : Nat} {a : Option Addr} {xs : List Value} (h : w.ownsRow 0 e k (.slice a n cap) n xs) (hn : 0 < n) : ∃ g, a = some ⟨g, 0, none⟩ ∧ Cells w g 0 xs := by
  obtain ⟨g, c, hv, _, _, hc⟩ := row_some h hn
  obtain ⟨rfl, rfl⟩ := slice_inj hv
  exact ⟨g, rfl, hc⟩
end Bx
namespace Bx
open Go Go.RowKit
theorem row_at {w : World} {e : TypeId} {k n cap g : Nat} {a : Option Addr} {xs : List Value} (h : w.ownsRow 0 e k (.slice a n cap) n xs) (ha : a = some ⟨g, 0, none⟩) (hn : 0 < n) : Cells w g 0 xs := by
  obtain ⟨g', rfl, hc⟩ := row_get h hn
  cases ha
  exact hc
end Bx
namespace Bx
theorem cmpI_gt {a b : Int} : 0 < cmpI a b ↔ b < a := by unfold cmpI; split <;> (try split) <;> omega
end Bx
