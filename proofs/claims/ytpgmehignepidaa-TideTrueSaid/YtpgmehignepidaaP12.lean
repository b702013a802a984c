/- The highest levels: plain laws. -/
import Derived.Test.YtpgmehignepidaaP11
set_option linter.all false
namespace Bx
open Go Go.RowKit
theorem perS_eq {n : Int} {c : Const} (hn : 1 ≤ n) (h : ConstOk c) : n / gcdI n (oneC c) * oneC c = perS n c := by
  have ho := oneC_bd h
  have hg := gcdI_pos (b := oneC c) (show 0 < n by omega)
  obtain ⟨x, hx, _⟩ := gcdI_r (a := n) (show 0 ≤ oneC c by omega)
  obtain ⟨y, hy, _⟩ := gcdI_l (b := oneC c) (show 0 ≤ n by omega)
  have e : oneC c / gcdI n (oneC c) = x := by
    conv => lhs; arg 1; rw [hx]
    exact div_gcd hg
  have e2 : n / gcdI n (oneC c) = y := by
    conv => lhs; arg 1; rw [hy]
    exact div_gcd hg
  unfold perS
  rw [e, e2]
  conv => lhs; arg 2; rw [hx]
  conv => rhs; arg 1; rw [hy]
  rw [← Int.mul_assoc, Int.mul_comm y]
theorem quo_n {n o : Int} (hn : 1 ≤ n) (ho : 1 ≤ o) : 1 ≤ n / gcdI n o ∧ n / gcdI n o ≤ n := by
  have hg := gcdI_pos (b := o) (show 0 < n by omega)
  obtain ⟨x, hx, hx0⟩ := gcdI_l (b := o) (show 0 ≤ n by omega)
  have e : n / gcdI n o = x := by
    conv => lhs; arg 1; rw [hx]
    exact div_gcd hg
  rw [e]
  have hx1 : 0 < x := by
    rcases Int.lt_or_eq_of_le hx0 with h | h
    · exact h
    · rw [← h, Int.mul_zero] at hx; omega
  have : 1 * x ≤ gcdI n o * x := Int.mul_le_mul_of_nonneg_right (by omega) hx0
  exact ⟨by omega, by omega⟩
theorem partP_le {c : Const} (h : ConstOk c) (p : Int) : (partP c p).lo ≤ (partP c p).hi := by
  have h1 := between_B (h := interp c p) (d := c.den) (s := c.slack) h.den.1 h.slack.1
  show interp c p / c.den - c.slack ≤ -((-interp c p) / c.den) + c.slack
  omega
theorem fold_le (tick : Int) : ∀ (cs : List Const) (s : Span), (∀ c ∈ cs, ConstOk c) → s.lo ≤ s.hi → (cs.foldl (fun s c => addS s (partP c (pAt c tick))) s).lo ≤ (cs.foldl (fun s c => addS s (partP c (pAt c tick))) s).hi
  | [], _, _, h => h
  | c :: cs, s, hc, h => by
    rw [List.foldl_cons]
    refine fold_le tick cs _ (fun d hd => hc d (List.mem_cons_of_mem _ hd)) ?_
    have := partP_le (hc c (List.mem_cons_self ..)) (pAt c tick)
    unfold addS
    simp only []
    omega
theorem lvlT_le {t : Table} (h : TableOk t) (tick : Int) : (lvlT t tick).lo ≤ (lvlT t tick).hi := fold_le tick _ _ h.consts (Int.le_refl _)
theorem lvlT_bd {t : Table} (h : TableOk t) (tick : Int) : Bd (lvlT t tick).lo (-200000) 200000 ∧ Bd (lvlT t tick).hi (-200000) 200000 := by
  have hb := lvl_bd h.mean t.consts tick h.consts
  have := h.len
  unfold lvlT
  exact ⟨⟨by omega, by omega⟩, ⟨by omega, by omega⟩⟩
/-- A span whose ends lie well, in order. -/
def SpanOk (s : Span) : Prop := s.lo ≤ s.hi ∧ Bd s.lo (-200000) 200000 ∧ Bd s.hi (-200000) 200000
theorem levelsF_spans {t : Table} {a n : Int} : ∀ s ∈ levelsF t a n, SpanOk s := by
  intro s hs
  by_cases h : levelsE t a n = 0
  · rw [levelsF_good h] at hs
    obtain ⟨i, _, rfl⟩ := List.mem_map.1 hs
    have hok := tableOk_of (levelsE_zero h).1
    exact ⟨lvlT_le hok _, (lvlT_bd hok _).1, (lvlT_bd hok _).2⟩
  · rw [levelsF_bad h] at hs; cases hs
theorem share_bd {lo hi s : Int} (h : lo ≤ hi) (hs : Bd s 0 255) : lo ≤ lo + (hi - lo) * s / 255 ∧ lo + (hi - lo) * s / 255 ≤ hi := by
  have h1 : 0 ≤ (hi - lo) * s := Int.mul_nonneg (by omega) hs.1
  have h2 : (hi - lo) * s ≤ (hi - lo) * 255 := Int.mul_le_mul_of_nonneg_left hs.2 (by omega)
  have h3 : 0 ≤ (hi - lo) * s / 255 := Int.ediv_nonneg h1 (by decide)
  have h4 : (hi - lo) * s / 255 ≤ hi - lo := Int.ediv_le_of_le_mul (by decide) h2
  omega
/-- So many levels, each in its span, and the place of a greatest one. -/
structure Most (l : List Span) (lv : List Int) (k most : Nat) : Prop where
  len : lv.length = k
  mem : ∀ i, i < k → (l.getD i ⟨0, 0⟩).lo ≤ lv.getD i 0 ∧ lv.getD i 0 ≤ (l.getD i ⟨0, 0⟩).hi
  at_ : k = 0 ∧ most = 0 ∨ most < k
  top : ∀ i, i < k → lv.getD i 0 ≤ lv.getD most 0
theorem getD_app {α : Type} {l : List α} {x d : α} {i k : Nat} (hl : l.length = k) : (l ++ [x]).getD i d = if i < k then l.getD i d else if i = k then x else d := by
  rw [List.getD_eq_getElem?_getD, List.getElem?_append]
  rw [hl]
  split
  · rw [List.getD_eq_getElem?_getD]
  · by_cases h : i = k
    · subst h; simp
    · rw [if_neg h, List.getElem?_eq_none (by simp; omega)]; rfl
theorem getD_hit {α : Type} {l : List α} {d x : α} {k : Nat} (h : l[k]? = some x) : l.getD k d = x := by rw [List.getD_eq_getElem?_getD, h]; rfl
theorem Most.here {l : List Span} {lv : List Int} {k most : Nat} {s : Span} {x : Int} (h : Most l lv k most) (hs : l[k]? = some s) (hx : s.lo ≤ x ∧ x ≤ s.hi) (hm : (lv ++ [x]).getD most 0 < x) : Most l (lv ++ [x]) (k + 1) k := by
  refine ⟨by simp [h.len], fun i hi => ?_, .inr (by omega), fun i hi => ?_⟩
  · rw [getD_app h.len]
    split
    · exact h.mem i (by assumption)
    · obtain rfl : i = k := by omega
      rw [if_pos rfl, getD_hit hs]; exact hx
  · rw [getD_app h.len] at hm
    rw [getD_app h.len, getD_app h.len, if_neg (Nat.lt_irrefl k), if_pos rfl]
    split
    · rename_i h1
      have h2 := h.top i h1
      rcases h.at_ with ⟨h3, _⟩ | h3
      · omega
      · rw [if_pos h3] at hm; omega
    · rw [if_pos (by omega)]; exact Int.le_refl _
theorem Most.stay {l : List Span} {lv : List Int} {k most : Nat} {s : Span} {x : Int} (h : Most l lv k most) (hs : l[k]? = some s) (hx : s.lo ≤ x ∧ x ≤ s.hi) (hm : x ≤ (lv ++ [x]).getD most 0) : Most l (lv ++ [x]) (k + 1) most := by
  refine ⟨by simp [h.len], fun i hi => ?_, .inr (by rcases h.at_ with ⟨_, h2⟩ | h2 <;> omega), fun i hi => ?_⟩
  · rw [getD_app h.len]
    split
    · exact h.mem i (by assumption)
    · obtain rfl : i = k := by omega
      rw [if_pos rfl, getD_hit hs]; exact hx
  · rw [getD_app h.len]
    split
    · rename_i h1
      have h2 := h.top i h1
      rcases h.at_ with ⟨h3, _⟩ | h3
      · omega
      · rw [getD_app h.len, if_pos h3]; exact h2
    · rw [if_pos (by omega)]; exact hm
/-- The place of a greatest level is one of the highest. -/
theorem Most.can {l : List Span} {lv : List Int} {most : Nat} (h : Most l lv l.length most) (hne : l ≠ []) : most < l.length ∧ canB l most = true := by
  have hpos : 0 < l.length := List.length_pos_iff.2 hne
  have hm : most < l.length := by rcases h.at_ with ⟨h1, _⟩ | h1 <;> omega
  refine ⟨hm, ?_⟩
  unfold canB
  rw [List.all_eq_true]
  intro s hs
  obtain ⟨i, hi⟩ := List.getElem?_of_mem hs
  have hil := (List.getElem?_eq_some_iff.1 hi).1
  have h1 := h.mem i hil
  have h2 := h.top i hil
  have h3 := h.mem most hm
  rw [getD_hit hi] at h1
  rw [decide_eq_true_eq]
  omega
theorem highsK_asc (l : List Span) (a : Int) (k : Nat) : (highsK l a k).Pairwise (· < ·) := by
  unfold highsK
  rw [List.pairwise_map]
  refine List.Pairwise.imp ?_ (List.Pairwise.filter _ (List.pairwise_lt_range (n := k)))
  intro x y h
  omega
theorem highsK_has {l : List Span} {a : Int} {k i : Nat} (hi : i < k) (h : canB l i = true) : a + (i : Int) ∈ highsK l a k := by
  unfold highsK
  exact List.mem_map.2 ⟨i, List.mem_filter.2 ⟨List.mem_range.2 hi, h⟩, rfl⟩
def fndB (H : List Int) (a : Int) (most k : Nat) : Bool := (H.take k).any fun y => decide (y - a = (most : Int))
theorem fndB_succ {H : List Int} {a : Int} {most k : Nat} {y : Int} (h : H[k]? = some y) : fndB H a most (k + 1) = (fndB H a most k || decide (y - a = (most : Int))) := by
  unfold fndB
  rw [take_snoc h, List.any_append]
  simp
theorem asc_step {H : List Int} (h : H.Pairwise (· < ·)) {i : Nat} {x y : Int} (hi : 0 < i) (hx : H[i - 1]? = some x) (hy : H[i]? = some y) : x < y := by
  obtain ⟨h1, rfl⟩ := List.getElem?_eq_some_iff.1 hx
  obtain ⟨h2, rfl⟩ := List.getElem?_eq_some_iff.1 hy
  exact List.pairwise_iff_getElem.1 h (i - 1) i h1 h2 (by omega)
end Bx
