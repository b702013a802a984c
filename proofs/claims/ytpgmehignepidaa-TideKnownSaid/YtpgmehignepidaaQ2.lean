/- Merged texts, part 2. -/
import Derived.Test.YtpgmehignepidaaQ1
import Derived.RangeFuncRecord
import Derived.RangeFuncSeq
import Derived.RangeFuncCalls
import Derived.OwnWalkIn
import Derived.OrdersIn
import Derived.RangeFuncMany
set_option linter.all false
/- part P10 -/
namespace Bx
open Go Go.RowKit
def gcdI (a b : Int) : Int := (Nat.gcd a.toNat b.toNat : Nat)
theorem gcdI_pos {a b : Int} (h : 0 < a) : 0 < gcdI a b := by
  unfold gcdI
  have := Nat.gcd_pos_of_pos_left b.toNat (show 0 < a.toNat by omega)
  omega
theorem gcdI_pos2 {a b : Int} (h : 0 < b) : 0 < gcdI a b := by
  unfold gcdI
  have := Nat.gcd_pos_of_pos_right a.toNat (show 0 < b.toNat by omega)
  omega
theorem gcdI_l {a b : Int} (h : 0 ≤ a) : ∃ x, a = gcdI a b * x ∧ 0 ≤ x := by
  obtain ⟨x, hx⟩ := Nat.gcd_dvd_left a.toNat b.toNat
  refine ⟨(x : Int), ?_, by omega⟩
  unfold gcdI
  rw [← Int.natCast_mul, ← hx]
  omega
theorem gcdI_r {a b : Int} (h : 0 ≤ b) : ∃ x, b = gcdI a b * x ∧ 0 ≤ x := by
  obtain ⟨x, hx⟩ := Nat.gcd_dvd_right a.toNat b.toNat
  refine ⟨(x : Int), ?_, by omega⟩
  unfold gcdI
  rw [← Int.natCast_mul, ← hx]
  omega
theorem div_gcd {g x : Int} (hg : 0 < g) : g * x / g = x := Int.mul_ediv_cancel_left x (by omega)
def cyc (c : Const) : Int := c.den * c.heights.length
def oneC (c : Const) : Int := cyc c / gcdI (cyc c) c.step
theorem oneC_bd {c : Const} (h : ConstOk c) : Bd (oneC c) 1 48000 := by
  have h1 := cyc_pos h
  have hg := gcdI_pos (b := c.step) (show 0 < cyc c by unfold cyc; omega)
  obtain ⟨x, hx, hx0⟩ := gcdI_l (b := c.step) (show 0 ≤ cyc c by unfold cyc; omega)
  have e : oneC c = x := by
    unfold oneC
    conv => lhs; arg 1; rw [hx]
    exact div_gcd hg
  rw [e]
  have hx1 : 0 < x := by
    rcases Int.lt_or_eq_of_le hx0 with h | h
    · exact h
    · rw [← h, Int.mul_zero] at hx; unfold cyc at hx; omega
  have : 1 * x ≤ gcdI (cyc c) c.step * x := Int.mul_le_mul_of_nonneg_right (by omega) hx0
  have : cyc c ≤ 48000 := h1.2
  exact ⟨by omega, by omega⟩
def perS (n : Int) (c : Const) : Int := n * (oneC c / gcdI n (oneC c))
def perL : List Const → Int → Int × Int
  | [], n => (n, 0)
  | c :: cs, n => if 1000000000 < perS n c then (0, 3) else perL cs (perS n c)
def periodF (t : Table) : Int × Int := if (checkT t).2 ≠ 0 then (0, (checkT t).2) else perL t.consts 1
theorem quo_bd {n o : Int} (hn : 1 ≤ n) (ho : 1 ≤ o) : 1 ≤ o / gcdI n o ∧ o / gcdI n o ≤ o := by
  have hg := gcdI_pos (b := o) (show 0 < n by omega)
  obtain ⟨x, hx, hx0⟩ := gcdI_r (a := n) (show 0 ≤ o by omega)
  have e : o / gcdI n o = x := by
    conv => lhs; arg 1; rw [hx]
    exact div_gcd hg
  rw [e]
  have hx1 : 0 < x := by
    rcases Int.lt_or_eq_of_le hx0 with h | h
    · exact h
    · rw [← h, Int.mul_zero] at hx; omega
  have : 1 * x ≤ gcdI n o * x := Int.mul_le_mul_of_nonneg_right (by omega) hx0
  exact ⟨by omega, by omega⟩
theorem perS_bd {n : Int} {c : Const} (hn : Bd n 1 1000000000) (h : ConstOk c) : Bd (perS n c) 1 48000000000000 := by
  have ho := oneC_bd h
  have hq := quo_bd hn.1 ho.1
  unfold perS
  constructor
  · have := Int.mul_le_mul hn.1 hq.1 (by omega) (by omega)
    omega
  · have := Int.mul_le_mul hn.2 (show oneC c / gcdI n (oneC c) ≤ 48000 by omega) (by omega) (by omega)
    omega
theorem perS_dvd {n : Int} {c : Const} (hn : 1 ≤ n) (h : ConstOk c) : (∃ x, perS n c = n * x) ∧ ∃ x, perS n c = oneC c * x := by
  refine ⟨⟨_, rfl⟩, ?_⟩
  have ho := oneC_bd h
  have hg := gcdI_pos (b := oneC c) (show 0 < n by omega)
  obtain ⟨x, hx, _⟩ := gcdI_r (a := n) (show 0 ≤ oneC c by omega)
  obtain ⟨y, hy, _⟩ := gcdI_l (b := oneC c) (show 0 ≤ n by omega)
  refine ⟨y, ?_⟩
  have e : oneC c / gcdI n (oneC c) = x := by
    conv => lhs; arg 1; rw [hx]
    exact div_gcd hg
  unfold perS
  rw [e]
  conv => lhs; arg 1; rw [hy]
  conv => rhs; arg 1; rw [hx]
  rw [Int.mul_assoc, Int.mul_assoc, Int.mul_comm x y]
theorem perL_spec : ∀ (cs : List Const) (n m : Int), (∀ c ∈ cs, ConstOk c) → Bd n 1 1000000000 → perL cs n = (m, 0) → 1 ≤ m ∧ (∃ x, m = n * x) ∧ ∀ c ∈ cs, ∃ x, m = oneC c * x
  | [], n, m, _, hn, h => by
    obtain rfl : n = m := by unfold perL at h; exact congrArg Prod.fst h
    exact ⟨hn.1, ⟨1, by omega⟩, fun c hc => by cases hc⟩
  | c :: cs, n, m, hc, hn, h => by
    unfold perL at h
    split at h
    · exact absurd (congrArg Prod.snd h) (show ¬ (3 : Int) = 0 by decide)
    · rename_i hle
      have hok := hc c (List.mem_cons_self ..)
      have hb := perS_bd hn hok
      obtain ⟨h1, ⟨x, hx⟩, h3⟩ := perL_spec cs _ m (fun d hd => hc d (List.mem_cons_of_mem _ hd)) ⟨hb.1, by omega⟩ h
      obtain ⟨⟨y, hy⟩, ⟨z, hz⟩⟩ := perS_dvd hn.1 hok
      refine ⟨h1, ⟨y * x, by rw [hx, hy, Int.mul_assoc]⟩, fun d hd => ?_⟩
      rcases List.mem_cons.1 hd with rfl | hd
      · exact ⟨z * x, by rw [hx, hz, Int.mul_assoc]⟩
      · exact h3 d hd
theorem pAt_period {c : Const} (h : ConstOk c) {m tick : Int} (hm : ∃ x, m = oneC c * x) : pAt c (tick + m) = pAt c tick := by
  obtain ⟨x, rfl⟩ := hm
  have h1 := cyc_pos h
  have hg := gcdI_pos (b := c.step) (show 0 < cyc c by unfold cyc; omega)
  obtain ⟨y, hy, _⟩ := gcdI_l (b := c.step) (show 0 ≤ cyc c by unfold cyc; omega)
  obtain ⟨z, hz, _⟩ := gcdI_r (a := cyc c) (show 0 ≤ c.step by have := h.step; omega)
  have e : oneC c = y := by
    unfold oneC
    conv => lhs; arg 1; rw [hy]
    exact div_gcd hg
  have e2 : c.step * (oneC c * x) = cyc c * (z * x) := by
    rw [e]
    conv => lhs; arg 1; rw [hz]
    conv => rhs; arg 1; rw [hy]
    rw [Int.mul_assoc, Int.mul_assoc]
    congr 1
    rw [← Int.mul_assoc, ← Int.mul_assoc, Int.mul_comm z y]
  unfold pAt
  rw [Int.mul_add, e2, ← Int.add_assoc]
  exact Int.add_mul_emod_self_left _ _ _
theorem lvl_congr {f g : Const → Span} : ∀ (cs : List Const) (s : Span), (∀ c ∈ cs, f c = g c) → cs.foldl (fun s c => addS s (f c)) s = cs.foldl (fun s c => addS s (g c)) s
  | [], _, _ => rfl
  | c :: cs, s, h => by
    rw [List.foldl_cons, List.foldl_cons, h c (List.mem_cons_self ..)]
    exact lvl_congr cs _ (fun d hd => h d (List.mem_cons_of_mem _ hd))
theorem period_lvl {t : Table} {n tick : Int} (h : periodF t = (n, 0)) : (checkT t).2 = 0 ∧ 1 ≤ n ∧ lvlT t (tick + n) = lvlT t tick := by
  unfold periodF at h
  split at h
  · rename_i h1; exact absurd (congrArg Prod.snd h) h1
  rename_i h1
  have hc : (checkT t).2 = 0 := Decidable.not_not.1 h1
  have hok := tableOk_of hc
  obtain ⟨h2, _, h3⟩ := perL_spec t.consts 1 n hok.consts ⟨by decide, by decide⟩ h
  refine ⟨hc, h2, ?_⟩
  unfold lvlT lvl
  exact lvl_congr _ _ (fun c hcm => by rw [pAt_period (hok.consts c hcm) (h3 c hcm)])
/-! ### offsets one step on -/
def shiftC (c : Const) : Const := { c with off := (c.off + c.step) % (c.den * c.heights.length) }
theorem cErr_shift {seen : List ByteArray} {c : Const} (h : cErr seen c = 0) : cErr seen (shiftC c) = 0 := by
  have hok := constOk_of h
  have hcy := cyc_pos hok
  unfold cErr at h ⊢
  split at h
  · exact absurd h (by decide)
  rename_i h1
  split at h
  · exact absurd h (by decide)
  rename_i h2
  split at h
  · exact absurd h (by decide)
  rename_i h3
  split at h
  · exact absurd h (by decide)
  rename_i h4
  rw [if_neg (by exact h1), if_neg (by exact h2), if_neg (by exact h3), if_neg]
  rw [Bool.not_eq_true, numsB_false] at h4 ⊢
  obtain ⟨a, b, c1, d, e⟩ := h4
  refine ⟨a, b, c1, ?_, e⟩
  show Bd ((c.off + c.step) % (c.den * c.heights.length)) 0 _
  exact ⟨Int.emod_nonneg _ (by omega), by have := Int.emod_lt_of_pos (c.off + c.step) (show 0 < c.den * (c.heights.length : Int) by omega); show _ ≤ c.den * (c.heights.length : Int) - 1; omega⟩
theorem checkL_shift : ∀ (cs : List Const) (seen : List ByteArray) (i : Int), (checkL cs seen i).2 = 0 → (checkL (cs.map shiftC) seen i).2 = 0
  | [], _, _, _ => rfl
  | c :: cs, seen, i, h => by
    unfold checkL at h
    split at h
    · rename_i h1; exact absurd h h1
    · rename_i h1
      show (checkL (shiftC c :: cs.map shiftC) seen i).2 = 0
      unfold checkL
      rw [if_neg (fun k => k (cErr_shift (Decidable.not_not.1 h1)))]
      exact checkL_shift cs _ _ h
theorem checkT_shift {t : Table} (h : (checkT t).2 = 0) : (checkT ⟨t.mean, t.consts.map shiftC⟩).2 = 0 := by
  unfold checkT at h ⊢
  split at h
  · exact absurd h (by decide)
  rename_i h1
  split at h
  · exact absurd h (by decide)
  rename_i h2
  rw [if_neg (by exact h1), if_neg (by rw [show (⟨t.mean, t.consts.map shiftC⟩ : Table).consts = t.consts.map shiftC from rfl, List.length_map]; exact h2)]
  exact checkL_shift _ _ _ h
theorem pAt_shift (c : Const) (tick : Int) : pAt (shiftC c) tick = pAt c (tick + 1) := by
  show ((c.off + c.step) % (c.den * c.heights.length) + c.step * tick) % (c.den * c.heights.length) = (c.off + c.step * (tick + 1)) % (c.den * c.heights.length)
  rw [Int.emod_add_emod, Int.mul_add, Int.mul_one]
  congr 1; omega
theorem lvl_shift (t : Table) (tick : Int) : lvlT ⟨t.mean, t.consts.map shiftC⟩ tick = lvlT t (tick + 1) := by
  unfold lvlT lvl
  rw [List.foldl_map]
  exact lvl_congr _ _ (fun c _ => by rw [pAt_shift]; rfl)
theorem levelF_cases (t : Table) (tick : Int) : (levelF t tick).2 = 0 ∨ (levelF t tick).1 = ⟨0, 0⟩ := by
  unfold levelF
  split
  · exact .inr rfl
  · split
    · exact .inr rfl
    · exact .inl rfl
/-! ### lists of levels -/
def someE (a n : Int) : Int := if outB n 0 400 = true then 3 else if n = 0 then 0 else if outB a 0 200000 = true then 7 else ticksE [a + n - 1]
def levelsE (t : Table) (a n : Int) : Int := if (checkT t).2 = 0 then someE a n else (checkT t).2
def lvlsL (t : Table) (a : Int) (n : Nat) : List Span := (List.range n).map fun (i : Nat) => lvlT t (a + i)
def levelsF (t : Table) (a n : Int) : List Span := if levelsE t a n ≠ 0 then [] else lvlsL t a n.toNat
theorem someE_zero {a n : Int} (h : someE a n = 0) : Bd n 0 400 ∧ (n ≠ 0 → Bd a 0 200000 ∧ Bd (a + n - 1) 0 200000) := by
  unfold someE at h
  split at h
  · exact absurd h (by decide)
  rename_i h1
  rw [Bool.not_eq_true, outB_false] at h1
  refine ⟨h1, fun hn => ?_⟩
  rw [if_neg hn] at h
  split at h
  · exact absurd h (by decide)
  rename_i h2
  rw [Bool.not_eq_true, outB_false] at h2
  exact ⟨h2, ticks1 h⟩
theorem lvlsL_ok {t : Table} (h : TableOk t) (a : Int) (n : Nat) : ∀ s ∈ lvlsL t a n, I64 s.lo ∧ I64 s.hi := by
  intro s hs
  obtain ⟨i, _, rfl⟩ := List.mem_map.1 hs
  have hb := lvl_bd h.mean t.consts (a + i) h.consts
  have := h.len
  unfold lvlT
  exact ⟨⟨by omega, by omega⟩, ⟨by omega, by omega⟩⟩
theorem lvlsL_len (t : Table) (a : Int) (n : Nat) : (lvlsL t a n).length = n := by simp [lvlsL]
theorem someE_eq (a n : Int) (h : Bd n 0 400) : someE a n = if 0 < n ∧ (¬ Bd a 0 200000 ∨ ¬ Bd (a + n - 1) 0 200000) then 7 else 0 := by
  unfold someE
  rw [if_neg (by rw [Bool.not_eq_true, outB_false]; exact h)]
  by_cases hn : n = 0
  · rw [if_pos hn, if_neg (by omega)]
  · rw [if_neg hn]
    by_cases h1 : Bd a 0 200000
    · rw [if_neg (by rw [Bool.not_eq_true, outB_false]; exact h1)]
      unfold ticksE
      by_cases h2 : Bd (a + n - 1) 0 200000
      · rw [if_neg, if_neg (by omega)]
        simp only [List.any_cons, List.any_nil, Bool.or_false, Bool.not_eq_true, outB_false]; exact h2
      · rw [if_pos, if_pos ⟨by omega, .inr h2⟩]
        simp only [List.any_cons, List.any_nil, Bool.or_false, outB_true]; omega
    · rw [if_pos (by rw [outB_true]; omega), if_pos ⟨by omega, .inl h1⟩]
end Bx
/- part P11 -/
namespace Bx
open Go Go.RowKit
def encI (n : Int) : List Value := [.int .i64 n]
theorem encI_len (n : Int) : (encI n).length = 1 := rfl
theorem levelsE_bad {t : Table} {a n : Int} (h : (checkT t).2 ≠ 0) : levelsE t a n = (checkT t).2 := by unfold levelsE; rw [if_neg h]
theorem levelsE_good {t : Table} {a n : Int} (h : (checkT t).2 = 0) : levelsE t a n = someE a n := by unfold levelsE; rw [if_pos h]
theorem levelsF_bad {t : Table} {a n : Int} (h : levelsE t a n ≠ 0) : levelsF t a n = [] := by unfold levelsF; rw [if_pos h]
theorem levelsF_good {t : Table} {a n : Int} (h : levelsE t a n = 0) : levelsF t a n = lvlsL t a n.toNat := by unfold levelsF; rw [if_neg (fun k => k h)]
theorem levelsE_zero {t : Table} {a n : Int} (h : levelsE t a n = 0) : (checkT t).2 = 0 ∧ Bd n 0 400 ∧ (n ≠ 0 → Bd a 0 200000 ∧ Bd (a + n - 1) 0 200000) := by
  by_cases h1 : (checkT t).2 = 0
  · rw [levelsE_good h1] at h
    exact ⟨h1, someE_zero h⟩
  · rw [levelsE_bad h1] at h
    exact absurd h h1
theorem sl_spans {w : World} {e : TypeId} {v : Value} {n : Nat} {l : List Span} (h : w.ownsRow 0 e 2 v n (l.flatMap spanC)) (hn : l.length = n) (hok : ∀ s ∈ l, I64 s.lo ∧ I64 s.hi) : Sl w 2 RSpan v l := by
  subst hn
  exact row_sl spanC_len h hok
theorem sl_ints {w : World} {e : TypeId} {v : Value} {n : Nat} {l : List Int} (h : w.ownsRow 0 e 1 v n (l.flatMap encI)) (hn : l.length = n) (hok : ∀ s ∈ l, I64 s) : Sl w 1 RInt v l := by
  subst hn
  exact row_sl encI_len h hok
theorem lvlsL_succ (t : Table) (a : Int) (k : Nat) : lvlsL t a (k + 1) = lvlsL t a k ++ [lvlT t (a + k)] := by simp [lvlsL, List.range_succ]
theorem eq_of_get {α : Type} {a b : List α} (hl : a.length = b.length) (h : ∀ i, i < a.length → a[i]? = b[i]?) : a = b := by
  apply List.ext_getElem?
  intro i
  rcases Nat.lt_or_ge i a.length with h1 | h1
  · exact h i h1
  · rw [List.getElem?_eq_none h1, List.getElem?_eq_none (by omega)]
theorem ne_of_get {α : Type} {a b : List α} {k : Nat} {x y : α} (ha : a[k]? = some x) (hb : b[k]? = some y) (h : x ≠ y) : a ≠ b := by
  rintro rfl
  rw [ha] at hb
  exact h (Option.some.inj hb)
/-! ### the highest -/
def canB (l : List Span) (i : Nat) : Bool := l.all fun s => decide (s.lo ≤ (l.getD i ⟨0, 0⟩).hi)
def highsK (l : List Span) (a : Int) (k : Nat) : List Int := ((List.range k).filter fun i => canB l i).map fun i => a + ((i : Nat) : Int)
def highF (t : Table) (a n : Int) : List Int := if levelsE t a n ≠ 0 then [] else highsK (levelsF t a n) a (levelsF t a n).length
theorem highsK_in {l : List Span} {a : Int} {k : Nat} (h : canB l k = true) : highsK l a (k + 1) = highsK l a k ++ [a + k] := by simp [highsK, List.range_succ, List.filter_append, h]
theorem highsK_out {l : List Span} {a : Int} {k : Nat} (h : canB l k = false) : highsK l a (k + 1) = highsK l a k := by simp [highsK, List.range_succ, List.filter_append, h]
theorem highsK_len (l : List Span) (a : Int) (k : Nat) : (highsK l a k).length ≤ k := by
  unfold highsK
  rw [List.length_map]
  have := List.length_filter_le (fun i => canB l i) (List.range k)
  simpa using this
theorem canB_max {l : List Span} {m s : Span} {k : Nat} (hm : m ∈ l) (hall : ∀ s ∈ l, s.lo ≤ m.lo) (hk : l[k]? = some s) : canB l k = decide (m.lo ≤ s.hi) := by
  unfold canB
  rw [show l.getD k ⟨0, 0⟩ = s by rw [List.getD_eq_getElem?_getD, hk]; rfl, Bool.eq_iff_iff]
  simp only [List.all_eq_true, decide_eq_true_eq]
  exact ⟨fun h => h m hm, fun h x hx => by have := hall x hx; omega⟩
theorem highsK_mem {l : List Span} {a : Int} {k : Nat} : ∀ x ∈ highsK l a k, ∃ i : Nat, x = a + i ∧ i < k ∧ canB l i = true := by
  intro x hx
  unfold highsK at hx
  obtain ⟨i, hi, rfl⟩ := List.mem_map.1 hx
  rw [List.mem_filter, List.mem_range] at hi
  exact ⟨i, rfl, hi.1, hi.2⟩
def allK (l : List Span) (h : Int) (k : Nat) : Bool := (l.take k).all fun s => decide (s.lo ≤ h)
theorem allK_succ {l : List Span} {h : Int} {k : Nat} {s : Span} (hs : l[k]? = some s) : allK l h (k + 1) = (allK l h k && decide (s.lo ≤ h)) := by
  unfold allK
  rw [take_snoc hs, List.all_append]
  simp
theorem allK_all {l : List Span} {k : Nat} {s : Span} (hs : l[k]? = some s) : allK l s.hi l.length = canB l k := by
  unfold allK canB
  rw [List.take_length, show l.getD k ⟨0, 0⟩ = s by rw [List.getD_eq_getElem?_getD, hs]; rfl]
end Bx

namespace Bx
open Go Go.RowKit
theorem levelsF_ok {t : Table} {a n : Int} : ∀ s ∈ levelsF t a n, I64 s.lo ∧ I64 s.hi := by
  by_cases h : levelsE t a n = 0
  · rw [levelsF_good h]
    exact lvlsL_ok (tableOk_of (levelsE_zero h).1) a _
  · rw [levelsF_bad h]
    intro s hs; cases hs
theorem highF_ok {t : Table} {a n : Int} : ∀ x ∈ highF t a n, I64 x := by
  intro x hx
  unfold highF at hx
  split at hx
  · cases hx
  · rename_i h
    have hz := Decidable.not_not.1 h
    obtain ⟨_, h2, h3⟩ := levelsE_zero hz
    have hl : (levelsF t a n).length = n.toNat := by rw [levelsF_good hz, lvlsL_len]
    obtain ⟨i, rfl, hi, _⟩ := highsK_mem x hx
    have := h3 (by omega)
    exact ⟨by omega, by omega⟩
theorem row_shape {w : World} {e : TypeId} {k n : Nat} {v : Value} {xs : List Value} (h : w.ownsRow 0 e k v n xs) : ∃ a cap, v = .slice a n cap := by
  rcases h.2 with ⟨rfl, rfl⟩ | ⟨g, cap, cur, rfl, _⟩
  · exact ⟨_, _, rfl⟩
  · exact ⟨_, _, rfl⟩
theorem row_get {w : World} {e : TypeId} {k n cap : Nat} {a : Option Addr} {xs : List Value} (h : w.ownsRow 0 e k (.slice a n cap) n xs) (hn : 0 < n) : ∃ g, a = some ⟨g, 0, none⟩ ∧ Cells w g 0 xs := by
  obtain ⟨g, c, hv, _, _, hc⟩ := row_some h hn
  obtain ⟨rfl, rfl⟩ := slice_inj hv
  exact ⟨g, rfl, hc⟩
end Bx
namespace Bx
open Go Go.RowKit
theorem row_at {w : World} {e : TypeId} {k n cap g : Nat} {a : Option Addr} {xs : List Value} (h : w.ownsRow 0 e k (.slice a n cap) n xs) (ha : a = some ⟨g, 0, none⟩) (hn : 0 < n) : Cells w g 0 xs := by
  obtain ⟨g', rfl, hc⟩ := row_get h hn
  cases ha
  exact hc
end Bx
namespace Bx
theorem cmpI_gt {a b : Int} : 0 < cmpI a b ↔ b < a := by unfold cmpI; split <;> (try split) <;> omega
end Bx
/- part P12 -/
namespace Bx
open Go Go.RowKit
theorem perS_eq {n : Int} {c : Const} (hn : 1 ≤ n) (h : ConstOk c) : n / gcdI n (oneC c) * oneC c = perS n c := by
  have ho := oneC_bd h
  have hg := gcdI_pos (b := oneC c) (show 0 < n by omega)
  obtain ⟨x, hx, _⟩ := gcdI_r (a := n) (show 0 ≤ oneC c by omega)
  obtain ⟨y, hy, _⟩ := gcdI_l (b := oneC c) (show 0 ≤ n by omega)
  have e : oneC c / gcdI n (oneC c) = x := by
    conv => lhs; arg 1; rw [hx]
    exact div_gcd hg
  have e2 : n / gcdI n (oneC c) = y := by
    conv => lhs; arg 1; rw [hy]
    exact div_gcd hg
  unfold perS
  rw [e, e2]
  conv => lhs; arg 2; rw [hx]
  conv => rhs; arg 1; rw [hy]
  rw [← Int.mul_assoc, Int.mul_comm y]
theorem quo_n {n o : Int} (hn : 1 ≤ n) (ho : 1 ≤ o) : 1 ≤ n / gcdI n o ∧ n / gcdI n o ≤ n := by
  have hg := gcdI_pos (b := o) (show 0 < n by omega)
  obtain ⟨x, hx, hx0⟩ := gcdI_l (b := o) (show 0 ≤ n by omega)
  have e : n / gcdI n o = x := by
    conv => lhs; arg 1; rw [hx]
    exact div_gcd hg
  rw [e]
  have hx1 : 0 < x := by
    rcases Int.lt_or_eq_of_le hx0 with h | h
    · exact h
    · rw [← h, Int.mul_zero] at hx; omega
  have : 1 * x ≤ gcdI n o * x := Int.mul_le_mul_of_nonneg_right (by omega) hx0
  exact ⟨by omega, by omega⟩
theorem partP_le {c : Const} (h : ConstOk c) (p : Int) : (partP c p).lo ≤ (partP c p).hi := by
  have h1 := between_B (h := interp c p) (d := c.den) (s := c.slack) h.den.1 h.slack.1
  show interp c p / c.den - c.slack ≤ -((-interp c p) / c.den) + c.slack
  omega
theorem fold_le (tick : Int) : ∀ (cs : List Const) (s : Span), (∀ c ∈ cs, ConstOk c) → s.lo ≤ s.hi → (cs.foldl (fun s c => addS s (partP c (pAt c tick))) s).lo ≤ (cs.foldl (fun s c => addS s (partP c (pAt c tick))) s).hi
  | [], _, _, h => h
  | c :: cs, s, hc, h => by
    rw [List.foldl_cons]
    refine fold_le tick cs _ (fun d hd => hc d (List.mem_cons_of_mem _ hd)) ?_
    have := partP_le (hc c (List.mem_cons_self ..)) (pAt c tick)
    unfold addS
    simp only []
    omega
theorem lvlT_le {t : Table} (h : TableOk t) (tick : Int) : (lvlT t tick).lo ≤ (lvlT t tick).hi := fold_le tick _ _ h.consts (Int.le_refl _)
theorem lvlT_bd {t : Table} (h : TableOk t) (tick : Int) : Bd (lvlT t tick).lo (-200000) 200000 ∧ Bd (lvlT t tick).hi (-200000) 200000 := by
  have hb := lvl_bd h.mean t.consts tick h.consts
  have := h.len
  unfold lvlT
  exact ⟨⟨by omega, by omega⟩, ⟨by omega, by omega⟩⟩
/-- A span whose ends lie well, in order. -/
def SpanOk (s : Span) : Prop := s.lo ≤ s.hi ∧ Bd s.lo (-200000) 200000 ∧ Bd s.hi (-200000) 200000
theorem levelsF_spans {t : Table} {a n : Int} : ∀ s ∈ levelsF t a n, SpanOk s := by
  intro s hs
  by_cases h : levelsE t a n = 0
  · rw [levelsF_good h] at hs
    obtain ⟨i, _, rfl⟩ := List.mem_map.1 hs
    have hok := tableOk_of (levelsE_zero h).1
    exact ⟨lvlT_le hok _, (lvlT_bd hok _).1, (lvlT_bd hok _).2⟩
  · rw [levelsF_bad h] at hs; cases hs
theorem share_bd {lo hi s : Int} (h : lo ≤ hi) (hs : Bd s 0 255) : lo ≤ lo + (hi - lo) * s / 255 ∧ lo + (hi - lo) * s / 255 ≤ hi := by
  have h1 : 0 ≤ (hi - lo) * s := Int.mul_nonneg (by omega) hs.1
  have h2 : (hi - lo) * s ≤ (hi - lo) * 255 := Int.mul_le_mul_of_nonneg_left hs.2 (by omega)
  have h3 : 0 ≤ (hi - lo) * s / 255 := Int.ediv_nonneg h1 (by decide)
  have h4 : (hi - lo) * s / 255 ≤ hi - lo := Int.ediv_le_of_le_mul (by decide) h2
  omega
/-- So many levels, each in its span, and the place of a greatest one. -/
structure Most (l : List Span) (lv : List Int) (k most : Nat) : Prop where
  len : lv.length = k
  mem : ∀ i, i < k → (l.getD i ⟨0, 0⟩).lo ≤ lv.getD i 0 ∧ lv.getD i 0 ≤ (l.getD i ⟨0, 0⟩).hi
  at_ : k = 0 ∧ most = 0 ∨ most < k
  top : ∀ i, i < k → lv.getD i 0 ≤ lv.getD most 0
theorem getD_app {α : Type} {l : List α} {x d : α} {i k : Nat} (hl : l.length = k) : (l ++ [x]).getD i d = if i < k then l.getD i d else if i = k then x else d := by
  rw [List.getD_eq_getElem?_getD, List.getElem?_append]
  rw [hl]
  split
  · rw [List.getD_eq_getElem?_getD]
  · by_cases h : i = k
    · subst h; simp
    · rw [if_neg h, List.getElem?_eq_none (by simp; omega)]; rfl
theorem getD_hit {α : Type} {l : List α} {d x : α} {k : Nat} (h : l[k]? = some x) : l.getD k d = x := by rw [List.getD_eq_getElem?_getD, h]; rfl
theorem Most.here {l : List Span} {lv : List Int} {k most : Nat} {s : Span} {x : Int} (h : Most l lv k most) (hs : l[k]? = some s) (hx : s.lo ≤ x ∧ x ≤ s.hi) (hm : (lv ++ [x]).getD most 0 < x) : Most l (lv ++ [x]) (k + 1) k := by
  refine ⟨by simp [h.len], fun i hi => ?_, .inr (by omega), fun i hi => ?_⟩
  · rw [getD_app h.len]
    split
    · exact h.mem i (by assumption)
    · obtain rfl : i = k := by omega
      rw [if_pos rfl, getD_hit hs]; exact hx
  · rw [getD_app h.len] at hm
    rw [getD_app h.len, getD_app h.len, if_neg (Nat.lt_irrefl k), if_pos rfl]
    split
    · rename_i h1
      have h2 := h.top i h1
      rcases h.at_ with ⟨h3, _⟩ | h3
      · omega
      · rw [if_pos h3] at hm; omega
    · rw [if_pos (by omega)]; exact Int.le_refl _
theorem Most.stay {l : List Span} {lv : List Int} {k most : Nat} {s : Span} {x : Int} (h : Most l lv k most) (hs : l[k]? = some s) (hx : s.lo ≤ x ∧ x ≤ s.hi) (hm : x ≤ (lv ++ [x]).getD most 0) : Most l (lv ++ [x]) (k + 1) most := by
  refine ⟨by simp [h.len], fun i hi => ?_, .inr (by rcases h.at_ with ⟨_, h2⟩ | h2 <;> omega), fun i hi => ?_⟩
  · rw [getD_app h.len]
    split
    · exact h.mem i (by assumption)
    · obtain rfl : i = k := by omega
      rw [if_pos rfl, getD_hit hs]; exact hx
  · rw [getD_app h.len]
    split
    · rename_i h1
      have h2 := h.top i h1
      rcases h.at_ with ⟨h3, _⟩ | h3
      · omega
      · rw [getD_app h.len, if_pos h3]; exact h2
    · rw [if_pos (by omega)]; exact hm
/-- The place of a greatest level is one of the highest. -/
theorem Most.can {l : List Span} {lv : List Int} {most : Nat} (h : Most l lv l.length most) (hne : l ≠ []) : most < l.length ∧ canB l most = true := by
  have hpos : 0 < l.length := List.length_pos_iff.2 hne
  have hm : most < l.length := by rcases h.at_ with ⟨h1, _⟩ | h1 <;> omega
  refine ⟨hm, ?_⟩
  unfold canB
  rw [List.all_eq_true]
  intro s hs
  obtain ⟨i, hi⟩ := List.getElem?_of_mem hs
  have hil := (List.getElem?_eq_some_iff.1 hi).1
  have h1 := h.mem i hil
  have h2 := h.top i hil
  have h3 := h.mem most hm
  rw [getD_hit hi] at h1
  rw [decide_eq_true_eq]
  omega
theorem highsK_asc (l : List Span) (a : Int) (k : Nat) : (highsK l a k).Pairwise (· < ·) := by
  unfold highsK
  rw [List.pairwise_map]
  refine List.Pairwise.imp ?_ (List.Pairwise.filter _ (List.pairwise_lt_range (n := k)))
  intro x y h
  omega
theorem highsK_has {l : List Span} {a : Int} {k i : Nat} (hi : i < k) (h : canB l i = true) : a + (i : Int) ∈ highsK l a k := by
  unfold highsK
  exact List.mem_map.2 ⟨i, List.mem_filter.2 ⟨List.mem_range.2 hi, h⟩, rfl⟩
def fndB (H : List Int) (a : Int) (most k : Nat) : Bool := (H.take k).any fun y => decide (y - a = (most : Int))
theorem fndB_succ {H : List Int} {a : Int} {most k : Nat} {y : Int} (h : H[k]? = some y) : fndB H a most (k + 1) = (fndB H a most k || decide (y - a = (most : Int))) := by
  unfold fndB
  rw [take_snoc h, List.any_append]
  simp
theorem asc_step {H : List Int} (h : H.Pairwise (· < ·)) {i : Nat} {x y : Int} (hi : 0 < i) (hx : H[i - 1]? = some x) (hy : H[i]? = some y) : x < y := by
  obtain ⟨h1, rfl⟩ := List.getElem?_eq_some_iff.1 hx
  obtain ⟨h2, rfl⟩ := List.getElem?_eq_some_iff.1 hy
  exact List.pairwise_iff_getElem.1 h (i - 1) i h1 h2 (by omega)
end Bx
/- part P13 -/
namespace Bx
open Go Go.RowKit
abbrev W64 (a : Int) : Int := IntKind.i64.wrap a
def nextL (rate l m : Int) : Int := max (-20000) (min 20000 (W64 (l + (W64 (rate * max m (-127))).tdiv 127)))
def lvS (rate lev : Int) (ms : List Int) : Nat → Int
  | 0 => lev
  | k + 1 => nextL rate (lvS rate lev ms k) (ms.getD k 0)
def lvsK (rate lev : Int) (ms : List Int) (k : Nat) : List Int := (List.range (k + 1)).map (lvS rate lev ms)
theorem lvsK_succ (rate lev : Int) (ms : List Int) (k : Nat) : lvsK rate lev ms (k + 1) = lvsK rate lev ms k ++ [lvS rate lev ms (k + 1)] := by unfold lvsK; rw [List.range_succ, List.map_append]; rfl
theorem lvsK_len (rate lev : Int) (ms : List Int) (k : Nat) : (lvsK rate lev ms k).length = k + 1 := by simp [lvsK]
theorem lvsK_get {rate lev : Int} {ms : List Int} {k i : Nat} (h : i ≤ k) : (lvsK rate lev ms k)[i]? = some (lvS rate lev ms i) := by unfold lvsK; simp [show i < k + 1 by omega]
def atS (gaps : List Int) : Nat → Int
  | 0 => gaps.getD 0 0 % 8
  | i + 1 => atS gaps i + gaps.getD (i + 1) 0 % 8 + 1
def datK (ds : List Datum) (t : Int) : Nat → Nat
  | 0 => 0
  | k + 1 => if (ds.getD k ⟨0, ⟨0, 0⟩⟩).start ≤ t then k else datK ds t k
def shV (g : Gauge) (x : Truth) (d : Nat) (v : Int) : Int :=
  if d < g.datums.length then
    let s := (g.datums.getD d ⟨0, ⟨0, 0⟩⟩).shift
    if d < x.shifts.length then W64 (W64 (v + s.lo) + (W64 (W64 (s.hi - s.lo) * x.shifts.getD d 0)).tdiv 255) else W64 (v + s.lo)
  else v
def erV (g : Gauge) (x : Truth) (i : Nat) (v : Int) : Int := if i < x.errs.length then W64 (v + (W64 (g.err * max (x.errs.getD i 0) (-127))).tdiv 127) else v
def mkR (g : Gauge) (x : Truth) (i : Nat) : Reading := ⟨x.start + atS x.gaps i, erV g x i (shV g x (datK g.datums (x.start + atS x.gaps i) g.datums.length) (lvS g.rate x.level x.moves (atS x.gaps i).toNat))⟩
def mkRs (g : Gauge) (x : Truth) (k : Nat) : List Reading := (List.range k).map (mkR g x)
theorem mkRs_succ (g : Gauge) (x : Truth) (k : Nat) : mkRs g x (k + 1) = mkRs g x k ++ [mkR g x k] := by unfold mkRs; rw [List.range_succ, List.map_append]; rfl
theorem mkRs_len (g : Gauge) (x : Truth) (k : Nat) : (mkRs g x k).length = k := by simp [mkRs]
theorem readC_len (r : Reading) : (readC r).length = 2 := rfl
theorem atS_nonneg {gaps : List Int} : ∀ i, 0 ≤ atS gaps i
  | 0 => Int.emod_nonneg _ (by decide)
  | i + 1 => by
    have := atS_nonneg (gaps := gaps) i
    have := Int.emod_nonneg (gaps.getD (i + 1) 0) (show (8 : Int) ≠ 0 by decide)
    unfold atS; omega
theorem wrap_tdiv {a b : Int} (hb : 1 < b) (ha : I64 a) : -9223372036854775807 ≤ a.tdiv b ∧ a.tdiv b ≤ 9223372036854775807 := by
  have h1 := Int.natAbs_tdiv_le_natAbs a b
  unfold I64 at ha
  rcases Int.lt_or_le a 0 with h | h
  · have h2 : (-a).tdiv b = (-a) / b := Int.tdiv_eq_ediv_of_nonneg (by omega)
    have h3 : (-a) / b < -a := Int.ediv_lt_self_of_pos_of_ne_one (by omega) (by omega)
    have h4 : a.tdiv b = -((-a).tdiv b) := by rw [Int.neg_tdiv, Int.neg_neg]
    have h5 : 0 ≤ (-a) / b := Int.ediv_nonneg (by omega) (by omega)
    omega
  · omega
theorem w64_i64 (a : Int) : I64 (W64 a) := by
  have := bounds_i64 (wf_wrap .i64 a)
  unfold I64 W64; omega
theorem w64_in {a : Int} (h : I64 a) : W64 a = a := wrap_in h
structure TruthOk (x : Truth) : Prop where
  start : Bd x.start 0 199800
  len : x.moves.length < 150
  level : Bd x.level (-20000) 20000
/-! ### no number wraps -/
theorem nextL_bd (rate l m : Int) : Bd (nextL rate l m) (-20000) 20000 := by unfold nextL; omega
theorem lvS_bd {rate lev : Int} (h : Bd lev (-20000) 20000) (ms : List Int) : ∀ k, Bd (lvS rate lev ms k) (-20000) 20000
  | 0 => h
  | k + 1 => nextL_bd _ _ _
theorem tdiv_abs {a b c : Int} (hb : 0 < b) (h : Bd a (-(c * b)) (c * b)) : Bd (a.tdiv b) (-c) c := by
  rcases Int.le_total 0 a with h0 | h0
  · rw [Int.tdiv_eq_ediv_of_nonneg h0]
    have h1 := Int.ediv_nonneg h0 (show 0 ≤ b by omega)
    have h2 : a / b ≤ c := Int.ediv_le_of_le_mul hb h.2
    exact ⟨by omega, h2⟩
  · have e : a.tdiv b = -((-a) / b) := by
      rw [← Int.tdiv_eq_ediv_of_nonneg (show 0 ≤ -a by omega), Int.neg_tdiv, Int.neg_neg]
    have h1 := Int.ediv_nonneg (show 0 ≤ -a by omega) (show 0 ≤ b by omega)
    have h2 : (-a) / b ≤ c := Int.ediv_le_of_le_mul hb (by omega)
    rw [e]
    exact ⟨by omega, by omega⟩
theorem share127 {r m : Int} (hr : Bd r 0 5000) (hm : Bd m (-128) 127) : W64 (r * max m (-127)) = r * max m (-127) ∧ Bd ((r * max m (-127)).tdiv 127) (-r) r := by
  have h1 : r * max m (-127) ≤ r * 127 := Int.mul_le_mul_of_nonneg_left (by omega) hr.1
  have h2 : r * (-127) ≤ r * max m (-127) := Int.mul_le_mul_of_nonneg_left (by omega) hr.1
  refine ⟨wrap_in ⟨by omega, by omega⟩, tdiv_abs (by decide) ⟨by omega, by omega⟩⟩
theorem nextL_near {r l m : Int} (hr : Bd r 0 5000) (hm : Bd m (-128) 127) (hl : Bd l (-20000) 20000) : Bd (nextL r l m - l) (-r) r := by
  obtain ⟨h1, h2⟩ := share127 hr hm
  unfold nextL
  rw [h1, w64_in (a := l + (r * max m (-127)).tdiv 127) ⟨by omega, by omega⟩]
  exact ⟨by omega, by omega⟩
theorem getD_mem_bd {l : List Int} {lo hi : Int} (h : ∀ x ∈ l, Bd x lo hi) (h0 : Bd 0 lo hi) (i : Nat) : Bd (l.getD i 0) lo hi := by
  rw [List.getD_eq_getElem?_getD]
  cases hx : l[i]? with
  | none => exact h0
  | some x => exact h x (List.mem_of_getElem? hx)
theorem lvS_near {r lev : Int} {ms : List Int} (hr : Bd r 0 5000) (hms : ∀ m ∈ ms, Bd m (-128) 127) (hl : Bd lev (-20000) 20000) (i : Nat) : ∀ k, Bd (lvS r lev ms (i + k) - lvS r lev ms i) (-(r * k)) (r * k)
  | 0 => by simp
  | k + 1 => by
    have ih := lvS_near hr hms hl i k
    have h1 := nextL_near hr (getD_mem_bd hms (show Bd 0 (-128) 127 by decide) (i + k)) (lvS_bd (rate := r) hl ms (i + k))
    have e : lvS r lev ms (i + (k + 1)) = nextL r (lvS r lev ms (i + k)) (ms.getD (i + k) 0) := rfl
    rw [e]
    have e2 : r * ((k + 1 : Nat) : Int) = r * k + r := by rw [show ((k + 1 : Nat) : Int) = (k : Int) + 1 from rfl, Int.mul_add, Int.mul_one]
    rw [e2]
    exact ⟨by omega, by omega⟩
theorem lvS_far {r lev : Int} {ms : List Int} (hr : Bd r 0 5000) (hms : ∀ m ∈ ms, Bd m (-128) 127) (hl : Bd lev (-20000) 20000) (i j : Nat) : Bd (lvS r lev ms i - lvS r lev ms j) (-(r * max ((i : Int) - j) (j - i))) (r * max ((i : Int) - j) (j - i)) := by
  rcases Nat.le_total i j with h | h
  · have := lvS_near hr hms hl i (j - i)
    rw [show i + (j - i) = j by omega] at this
    rw [show max ((i : Int) - j) (j - i) = ((j - i : Nat) : Int) by omega]
    exact ⟨by omega, by omega⟩
  · have := lvS_near hr hms hl j (i - j)
    rw [show j + (i - j) = i by omega] at this
    rw [show max ((i : Int) - j) (j - i) = ((i - j : Nat) : Int) by omega]
    exact this
theorem datK_eq {ds : List Datum} {t : Int} (hp : ds.Pairwise fun a b => a.start < b.start) : ∀ k, k ≤ ds.length → datK ds t k = min k (cntD ds t) - 1
  | 0, _ => by simp [datK]
  | k + 1, h => by
    have ih := datK_eq (t := t) hp k (by omega)
    obtain ⟨d, hd⟩ : ∃ d, ds[k]? = some d := ⟨ds[k], by simp [show k < ds.length by omega]⟩
    unfold datK
    rw [getD_hit hd]
    split
    · rename_i h1
      have : k < cntD ds t := Nat.lt_of_not_le fun h2 => by have := cntD_ge ds t k d hp hd h2; omega
      omega
    · rename_i h1
      have : cntD ds t ≤ k := Nat.le_of_not_lt fun h2 => h1 (cntD_lt ds t k d hd h2)
      omega
theorem datK_datI {g : Gauge} (h : GaugeOk g) {t : Int} : datK g.datums t g.datums.length = datI g.datums t := by
  rw [datK_eq h.asc _ (Nat.le_refl _)]
  have := cntD_le g.datums t
  unfold datI; omega
/-- The number in a shift. -/
def shN (g : Gauge) (x : Truth) (d : Nat) : Int :=
  let s := (g.datums.getD d ⟨0, ⟨0, 0⟩⟩).shift
  if d < x.shifts.length then s.lo + (s.hi - s.lo) * x.shifts.getD d 0 / 255 else s.lo
theorem shN_bd {g : Gauge} {x : Truth} {d : Nat} {e : Datum} (hd : g.datums[d]? = some e) (he : DatumOk e) (hs : ∀ s ∈ x.shifts, Bd s 0 255) : e.shift.lo ≤ shN g x d ∧ shN g x d ≤ e.shift.hi := by
  unfold shN
  rw [getD_hit hd]
  have h := he.shift
  simp only []
  split
  · exact share_bd h.2.1 (getD_mem_bd hs (by decide) d)
  · omega
theorem shV_eq {g : Gauge} {x : Truth} {d : Nat} {v : Int} {e : Datum} (hd : g.datums[d]? = some e) (he : DatumOk e) (hs : ∀ s ∈ x.shifts, Bd s 0 255) (hv : Bd v (-20000) 20000) : shV g x d v = v + shN g x d := by
  have h := he.shift
  have hlt := (List.getElem?_eq_some_iff.1 hd).1
  unfold shV shN
  rw [if_pos hlt, getD_hit hd]
  simp only []
  split
  · have hb := getD_mem_bd hs (show Bd 0 0 255 by decide) d
    have h1 : 0 ≤ (e.shift.hi - e.shift.lo) * x.shifts.getD d 0 := Int.mul_nonneg (by omega) hb.1
    have h2 : (e.shift.hi - e.shift.lo) * x.shifts.getD d 0 ≤ (e.shift.hi - e.shift.lo) * 255 := Int.mul_le_mul_of_nonneg_left hb.2 (by omega)
    have h3 := share_bd h.2.1 hb
    rw [w64_in (a := e.shift.hi - e.shift.lo) ⟨by omega, by omega⟩, w64_in (a := (e.shift.hi - e.shift.lo) * x.shifts.getD d 0) ⟨by omega, by omega⟩, Int.tdiv_eq_ediv_of_nonneg h1, w64_in (a := v + e.shift.lo) ⟨by omega, by omega⟩, w64_in ⟨by omega, by omega⟩]
    omega
  · rw [w64_in ⟨by omega, by omega⟩]
theorem erV_eq {g : Gauge} {x : Truth} {i : Nat} {v : Int} (he : Bd g.err 0 5000) (hs : ∀ s ∈ x.errs, Bd s (-128) 127) (hv : Bd v (-40000) 40000) : Bd (erV g x i v - v) (-g.err) g.err := by
  unfold erV
  split
  · obtain ⟨h1, h2⟩ := share127 he (getD_mem_bd hs (show Bd 0 (-128) 127 by decide) i)
    rw [h1, w64_in ⟨by omega, by omega⟩]
    exact ⟨by omega, by omega⟩
  · exact ⟨by omega, by omega⟩
/-- What was made: a gauge with readings of the levels. -/
structure Made (g : Gauge) (x : Truth) (y : Gauge) (K : Nat) : Prop where
  tr : TruthOk x
  y_eq : y = { g with readings := mkRs g x K }
  at_ : ∀ i, i < K → atS x.gaps i < x.moves.length + 1
structure SharesOk (x : Truth) : Prop where
  moves : ∀ m ∈ x.moves, Bd m (-128) 127
  shifts : ∀ s ∈ x.shifts, Bd s 0 255
  errs : ∀ s ∈ x.errs, Bd s (-128) 127
theorem Made.reading {g : Gauge} {x : Truth} {y : Gauge} {K : Nat} (h : Made g x y K) (hs : SharesOk x) (hy : GaugeOk y) {r : Reading} (hr : r ∈ y.readings) {i : Nat} :
    (readSpan y (x.start + i) r).lo ≤ lvS y.rate x.level x.moves i ∧ lvS y.rate x.level x.moves i ≤ (readSpan y (x.start + i) r).hi := by
  obtain ⟨htr, rfl, hat⟩ := h
  obtain ⟨j, hj, rfl⟩ := List.mem_map.1 hr
  rw [List.mem_range] at hj
  have h0 := atS_nonneg (gaps := x.gaps) j
  obtain ⟨n, hn⟩ := Int.eq_ofNat_of_zero_le h0
  have hlb := lvS_bd (rate := g.rate) htr.level x.moves n
  have hfar := lvS_far hy.rate hs.moves htr.level i n
  have hst := htr.start
  obtain ⟨d, hd1, hd2, hd3⟩ := datum_at hy (t := x.start + (n : Int)) (by omega)
  have hd1 : g.datums[datI g.datums (x.start + (n : Int))]? = some d := hd1
  have hsh := shV_eq (g := g) (x := x) (v := lvS g.rate x.level x.moves n) hd1 hd3 hs.shifts hlb
  have hsn := shN_bd (g := g) (x := x) hd1 hd3 hs.shifts
  have hdb := hd3.shift
  have her := erV_eq (g := g) (x := x) (i := j) (v := lvS g.rate x.level x.moves n + shN g x (datI g.datums (x.start + (n : Int)))) hy.err hs.errs ⟨by omega, by omega⟩
  have hk : datK g.datums (x.start + (n : Int)) g.datums.length = datI g.datums (x.start + (n : Int)) := datK_datI (g := { g with readings := mkRs g x K }) hy
  have hmk : mkR g x j = ⟨x.start + (n : Int), erV g x j (lvS g.rate x.level x.moves n + shN g x (datI g.datums (x.start + (n : Int))))⟩ := by
    unfold mkR
    rw [hn, hk, Int.toNat_natCast, hsh]
  rw [hmk]
  generalize erV g x j (lvS g.rate x.level x.moves n + shN g x (datI g.datums (x.start + (n : Int)))) = v at her
  unfold readSpan around farR
  rw [← hd2]
  simp only []
  have e1 : max (x.start + (i : Int) - (x.start + (n : Int))) (x.start + (n : Int) - (x.start + (i : Int))) = max ((i : Int) - n) (n - i) := by omega
  rw [e1]
  have hfar' : Bd (lvS g.rate x.level x.moves i - lvS g.rate x.level x.moves n) (-(g.rate * max ((i : Int) - n) (n - i))) (g.rate * max ((i : Int) - n) (n - i)) := hfar
  have hge : Bd (v - (lvS g.rate x.level x.moves n + shN g x (datI g.datums (x.start + (n : Int))))) (-g.err) g.err := her
  generalize g.rate * max ((i : Int) - n) (n - i) = far at hfar' ⊢
  generalize shN g x (datI g.datums (x.start + (n : Int))) = sh at *
  generalize lvS g.rate x.level x.moves i = li at *
  generalize lvS g.rate x.level x.moves n = ln at *
  constructor
  · show v - (g.err + far) - d.shift.hi ≤ li
    omega
  · show li ≤ v + (g.err + far) - d.shift.lo
    omega
theorem Made.cuts {g : Gauge} {x : Truth} {y : Gauge} {K : Nat} (h : Made g x y K) (hs : SharesOk x) (hy : GaugeOk y) (i : Nat) (now : Int) :
    (cuts y (x.start + i) (known y.readings now)).lo ≤ lvS y.rate x.level x.moves i ∧ lvS y.rate x.level x.moves i ≤ (cuts y (x.start + i) (known y.readings now)).hi := by
  have hb := lvS_bd (rate := y.rate) h.tr.level x.moves i
  rw [cuts_lo, cuts_hi]
  exact ⟨⟨hb.1, fun r hr => (h.reading hs hy (mem_known.1 hr).1).1⟩, ⟨hb.2, fun r hr => (h.reading hs hy (mem_known.1 hr).1).2⟩⟩
theorem saysE_good2 {y : Gauge} {t now : Int} (h : (checkG y).2.2 = 0) (ht : Bd t 0 200000) (hn : Bd now 0 200000) : saysE y t now = 0 := by
  unfold saysE
  rw [if_pos h]
  unfold ticksE
  rw [if_neg]
  simp only [List.any_cons, List.any_nil, Bool.or_false, Bool.not_eq_true, Bool.or_eq_false_iff, outB_false]
  exact ⟨ht, hn⟩
/-- By whatever is known the level is in what the gauge says. -/
theorem Made.says {g : Gauge} {x : Truth} {y : Gauge} {K : Nat} (h : Made g x y K) (hs : SharesOk x) (hy : (checkG y).2.2 = 0) {i : Nat} (hi : i < 150) {now : Int} (hn : Bd now 0 200000) :
    (known y.readings now = [] ∧ (saysF y (x.start + i) now).2 = 4) ∨ (known y.readings now ≠ [] ∧ (saysF y (x.start + i) now).2 = 0 ∧ hasB (saysF y (x.start + i) now).1 (lvS y.rate x.level x.moves i) = true) := by
  have hok := gaugeOk_of hy
  have hst := h.tr.start
  have hE := saysE_good2 (t := x.start + (i : Int)) hy ⟨by omega, by omega⟩ hn
  have hF : saysF y (x.start + i) now = saysG y (x.start + i) now := by unfold saysF; rw [if_neg (fun k => k hE)]
  have hc := h.cuts hs hok i now
  rw [hF]
  unfold saysG saysL
  by_cases hk : known y.readings now = []
  · rw [if_pos hk]; exact .inl ⟨hk, rfl⟩
  · rw [if_neg hk, if_neg (by omega)]
    exact .inr ⟨hk, rfl, hasB_iff.2 hc⟩
theorem known_nil {rs : List Reading} {a b : Int} (h : a ≤ b) (hb : known rs b = []) : known rs a = [] := by
  rw [List.eq_nil_iff_forall_not_mem] at hb ⊢
  exact fun r hr => hb r (known_more h r hr)
end Bx
namespace Bx
open Go Go.RowKit
def atP (gaps : List Int) : Nat → Int
  | 0 => 0
  | k + 1 => atS gaps k
theorem atS_here {gaps : List Int} {k : Nat} {e : Int} (h : gaps.getD k 0 = e) : atS gaps k = if (0 : Int) < k then atP gaps k + e % 8 + 1 else atP gaps k + e % 8 := by
  subst h
  cases k with
  | zero => simp [atS, atP]
  | succ k => rw [if_pos (by omega)]; rfl
theorem StX.toRow {S : List Nat} {w0 w : World} {L : List Item} {b : Nat} {cs : List Value} {T : TypeId} (h : StX S w0 w (blk b cs T :: L)) (k n : Nat) (hl : cs.length = n * k) (hn : n ≤ 1000000) : StX S w0 w (rowI (.slice (some ⟨b, 0, none⟩) n n) T k n cs :: L) := by
  refine ⟨h.extx, ?_, h.own, h.apart⟩
  intro it hit
  rcases List.mem_cons.1 hit with rfl | hi
  · refine ⟨hl, .inr ⟨b, n, cs.toArray, rfl, Nat.zero_le _, h.at b, Nat.le_refl _, by simp only [maxLen]; omega, by simpa using hl, ?_⟩⟩
    show cs.take (n * k) = cs
    rw [← hl, List.take_length]
  · exact h.ok it (List.mem_cons_of_mem _ hi)
theorem yQuoC {P : Program} {ρ : Operand → Value} {w : World} {ty : TypeId} {x y : Operand} {a b : Int} {t t' : TypeId} (hx : ρ x = .int .i64 a) (hy : ρ y = .int .i64 b) (hb : 1 < b) (ha : I64 a) : Y P ρ (.binOp .quo t x y t') ty w (.int .i64 (a.tdiv b)) w := by
  have h0 : b ≠ 0 := by omega
  have e : IntKind.i64.wrap (a.tdiv b) = a.tdiv b := by
    have := wrap_tdiv hb ha
    exact w64_in ⟨by omega, by omega⟩
  simp [Y, xop, execOp, hx, hy, eqGuard, binOp, Op.intDiv, h0, e]
end Bx
namespace Bx
open Go Go.RowKit
theorem mkR_i64 {g : Gauge} {x : Truth} {i : Nat} (h : TruthOk x) (ha : atS x.gaps i < x.moves.length + 1) : I64 (mkR g x i).tick ∧ I64 (mkR g x i).value := by
  have h0 := atS_nonneg (gaps := x.gaps) i
  have hs := h.start
  have hl := h.len
  refine ⟨⟨by show _ ≤ x.start + atS x.gaps i; omega, by show x.start + atS x.gaps i ≤ _; omega⟩, ?_⟩
  have hb := lvS_bd (rate := g.rate) h.level x.moves (atS x.gaps i).toNat
  have h1 : ∀ d v, I64 v → I64 (shV g x d v) := by
    intro d v hv
    unfold shV
    simp only []
    split
    · split <;> exact w64_i64 _
    · exact hv
  have h2 : ∀ v, I64 v → I64 (erV g x i v) := by
    intro v hv
    unfold erV
    split
    · exact w64_i64 _
    · exact hv
  exact h2 _ (h1 _ _ ⟨by omega, by omega⟩)
theorem shares_of {w : World} {cs : List Value} {x : Truth} (h : RTruth w cs x) : SharesOk x := by
  obtain ⟨mv, gv, sv, ev, _, _, _, hm, _, hs, he⟩ := h
  have key8 : ∀ {v : Value} {l : List Int}, Sl w 1 RI8 v l → ∀ m ∈ l, Bd m (-128) 127 := by
    intro v l hl m hm
    obtain ⟨a, cap, _, _, _, hel⟩ := hl
    obtain ⟨i, hi, rfl⟩ := List.mem_iff_getElem.1 hm
    obtain ⟨b, o, cs, _, _, _, hR⟩ := hel i hi
    exact ⟨hR.2.1, hR.2.2⟩
  have keyU : ∀ {v : Value} {l : List Int}, Sl w 1 RU8 v l → ∀ m ∈ l, Bd m 0 255 := by
    intro v l hl m hm
    obtain ⟨a, cap, _, _, _, hel⟩ := hl
    obtain ⟨i, hi, rfl⟩ := List.mem_iff_getElem.1 hm
    obtain ⟨b, o, cs, _, _, _, hR⟩ := hel i hi
    exact ⟨hR.2.1, hR.2.2⟩
  exact ⟨key8 hm, keyU hs, key8 he⟩
end Bx
namespace Bx
open Go Go.RowKit
theorem StX.call2 {S : List Nat} {w0 w w' : World} {L : List Item} {a b : Item} (h : StX S w0 w L) (hM : St w w' [a, b]) : StX S w0 w' (a :: b :: L) := h.call hM
end Bx
/- part LibR -/
namespace Bx
open Go Go.RowKit
/-- The fence that lets all by; r: the round in which the frame stands. -/
abbrev FX (r : Option Nat) : Fence := { Fence.wide with round := r }
/-- No way out but by a return, an exit, a panic. -/
class NoOut (Q : Exit → Act → World → Prop) : Prop where
  no : ∀ a w, ¬ Q .outgrown a w
instance noThen {K : Act → World → Prop} {Q : Exit → Act → World → Prop} [i : NoOut Q] : NoOut (Exit.then K Q) := ⟨fun a w h => i.no a w h⟩
instance noBlock {id : Nat} {Q : Exit → Act → World → Prop} [i : NoOut Q] : NoOut (Exit.inBlock id Q) := ⟨fun a w h => i.no a w h⟩
instance noBodyM {F : Fence} {n : Nat} {P : Program} {fn : Func} {R : Value → World → Prop} : NoOut (bodyPostM F n P fn (fun e w' => ∃ v, e = .returned v ∧ R v w')) := ⟨fun a w h => by obtain ⟨v, hv, _⟩ := h; cases hv⟩
instance noRound {P : Program} {l : Nat} {R : Ending → World → Prop} : NoOut (roundPost P l R) := ⟨fun a w h => h⟩
/-- An activation, with deferred calls behind its own. -/
def wD (ds : List Deferred) (a : Act) : Act := { a with defers := a.defers ++ ds }
/-- The post, with deferred calls behind the activation's own. -/
def reD (ds : List Deferred) (Q : Exit → Act → World → Prop) : Exit → Act → World → Prop := fun e a w => Q e (wD ds a) w
theorem no_reD {ds : List Deferred} {Q : Exit → Act → World → Prop} (h : NoOut Q) : ¬ LetsOut (reD ds Q) := fun ⟨a, w, k⟩ => h.no _ w k
def noDefer (o : Oper) : Bool := match o.op with | .defer _ => false | _ => true
theorem noDefer_spec {o : Oper} (h : noDefer o = true) : ∀ c, o.op ≠ .defer c := by
  intro c e
  rw [noDefer, e] at h
  cases h
section
variable {P : Program} {ops : Array Oper} {r : Option Nat} {ds : List Deferred} {Q : Exit → Act → World → Prop}
theorem calls_in {g : FuncId} {args : Array Value} {w : World} {R : Ending → World → Prop} {n : Nat} (h : Calls P g args w R) : CallsIn (FX r) n P g args w R := callsIn_wide.2 h
theorem rows_in {row : String} {args : Array Value} {w : World} {R : Value → World → Prop} {n : Nat} (h : Go.Rows P row args w R) : RowsIn (FX r) n P row args w R := by
  intro c cs _
  obtain ⟨v, w', h1, h2⟩ := h c cs
  exact ⟨v, w', h1, stepsIn_wide.2 h2⟩
theorem wD_put (a : Act) (d : Option Tmp) (v : Value) (ds : List Deferred) : (wD ds a).put d v = wD ds (a.put d v) := by cases d <;> rfl
theorem wD_eval (a : Act) (ds : List Deferred) : (wD ds a).eval = a.eval := by funext x; cases x <;> rfl
theorem oper_up {o : Oper} (hn : noDefer o = true) (hno : ¬ LetsOut (reD ds Q)) {K K' : Act → World → Prop} (hK : ∀ a w, K a w → K' (wD ds a) w) {a : Act} {w : World} (h : o.wp P a w K (reD ds Q)) : o.wpIn (FX r) 0 P (wD ds a) w K' Q := by
  refine ⟨fun _ _ => trivial, ?_⟩
  rw [Oper.semAt_plain (FX r) _ o (noDefer_spec hn), wD_eval]
  unfold Oper.wp at h
  generalize (execOp a.eval o).run P w = res at h ⊢
  cases res with
  | ok x w' =>
    cases x with
    | value v => simp only [Oper.upon, Oper.uponIn, wD_put] at h ⊢; exact hK _ _ h
    | skip => simp only [Oper.upon, Oper.uponIn, wD_put] at h ⊢; exact hK _ _ h
    | defer d =>
      have h2 := hK _ _ h
      rw [← wD_put] at h2
      exact h2
    | enter g args =>
      refine ⟨fun h => (by cases h), CallsIn.mono (calls_in h) ?_⟩
      intro e w'' he
      cases e with
      | returned v => simp only [wD_put]; exact hK _ _ he
      | panicked c => exact he
      | outgrown => exact absurd he hno
    | row row args =>
      refine ⟨fun h => (by cases h), RowsIn.mono (rows_in h) ?_⟩
      intro v w'' he
      simp only [wD_put]; exact hK _ _ he
    | _ => exact h.elim
  | halt x w' => cases x <;> first | exact h | exact h.elim
theorem list_up (hno : ¬ LetsOut (reD ds Q)) : ∀ (l : List Oper) (a : Act) (w : World), l.all noDefer = true → wpList P ops (reD ds Q) l a w → wpListIn (FX r) 0 P ops Q l (wD ds a) w
  | [], _, _, _, h => h
  | o :: rest, a, w, hn, h => by
    rw [List.all_cons, Bool.and_eq_true] at hn
    unfold wpList at h
    unfold wpListIn
    by_cases hw : Region.wanted o (yielded ops a.tmps) = true
    · rw [if_pos hw] at h
      rw [if_pos (show Region.wanted o (yielded ops (wD ds a).tmps) = true from hw)]
      exact oper_up hn.1 hno (fun a w hh => list_up hno rest a w hn.2 hh) (h.resolve_right (fun k => hno k.2))
    · rw [if_neg hw] at h
      rw [if_neg (show ¬ Region.wanted o (yielded ops (wD ds a).tmps) = true from hw)]
      refine ⟨fun _ _ => trivial, ?_⟩
      rw [wD_put]
      exact list_up hno rest _ w hn.2 h
theorem any_up {md : Region.Mode} (hno : ¬ LetsOut (reD ds Q)) (hn : ops.toList.all noDefer = true) : ∀ (fuel : Nat) (listed : Array Bool) (a : Act) (w : World), wpAny P md ops (reD ds Q) fuel listed a w → wpAnyIn (FX r) 0 P md ops Q fuel listed (wD ds a) w
  | 0, _, _, _, h => h
  | fuel + 1, listed, a, w, h => by
    refine ⟨h.1, fun i hi => ?_⟩
    have h1 := h.2 i hi
    unfold wpOp at h1
    unfold wpOpIn
    cases ho : ops[i]? with
    | none => simp only [ho] at h1 ⊢; exact any_up hno hn fuel _ a w h1
    | some o =>
      simp only [ho] at h1 ⊢
      have hno2 : noDefer o = true := List.all_eq_true.1 hn o (List.mem_of_getElem? (by simpa using ho))
      by_cases hw : Region.wanted o (yielded ops a.tmps) = true
      · rw [if_pos hw] at h1
        rw [if_pos (show Region.wanted o (yielded ops (wD ds a).tmps) = true from hw)]
        exact oper_up hno2 hno (fun a w hh => any_up hno hn fuel _ a w hh) (h1.resolve_right (fun k => hno k.2))
      · rw [if_neg hw] at h1
        rw [if_neg (show ¬ Region.wanted o (yielded ops (wD ds a).tmps) = true from hw)]
        refine ⟨fun _ _ => trivial, ?_⟩
        rw [wD_put]
        exact any_up hno hn fuel _ _ w h1
/-! ### the forms of code -/
/-- The activation of a frame, with deferred calls. -/
abbrev mkd (n : Nat) (f : Fr) (ds : List Deferred) : Act := wD ds (mk n f)
variable {n : Nat} {f : Fr} {w : World}
theorem regionX {id : Nat} {l : List Oper} [i : NoOut Q] (hn : l.all noDefer = true) (h : wpL P l.toArray (reD ds Q) n l f w) : (Code.region id l.toArray false).wpIn (FX r) 0 P Q (mkd n f ds) w :=
  wpIn_region_lit (list_up (no_reD i) l _ w hn h)
theorem seqX {x y : Code} {a : Act} (h : x.wpIn (FX r) 0 P (Exit.then (y.wpIn (FX r) 0 P Q) Q) a w) : (Code.seq x y).wpIn (FX r) 0 P Q a w := wpIn_seq h
theorem blockX {id : Nat} {c : Code} {a : Act} (h : c.wpIn (FX r) 0 P (Exit.inBlock id Q) a w) : (Code.block id c).wpIn (FX r) 0 P Q a w := wpIn_block h
theorem skipX {a : Act} (h : Q .normal a w) : Code.skip.wpIn (FX r) 0 P Q a w := wpIn_skip h
theorem exitX {id : Nat} {a : Act} (h : Q (.exit id) a w) : (Code.exit id).wpIn (FX r) 0 P Q a w := wpIn_exit h
theorem condX {c : Operand} {x y : Code} {B : Bool} (hc : ev n f c = .bool B) (ht : B = true → x.wpIn (FX r) 0 P Q (mkd n f ds) w) (hf : B = false → y.wpIn (FX r) 0 P Q (mkd n f ds) w) : (Code.cond c x y).wpIn (FX r) 0 P Q (mkd n f ds) w :=
  wpIn_cond_split (t := B) (by rw [wD_eval, mk_eval]; exact hc) ht hf
theorem seqXJ {x y : Code} {a : Act} (I : Fr → World → Prop) (hx : x.wpIn (FX r) 0 P (Exit.then (fun a w => ∃ f, a = mkd n f ds ∧ I f w) Q) a w) (hy : ∀ f w, I f w → y.wpIn (FX r) 0 P Q (mkd n f ds) w) : (Code.seq x y).wpIn (FX r) 0 P Q a w := by
  refine wpIn_seq (wpIn_mono hx ?_)
  intro e a w h
  cases e with
  | normal => obtain ⟨f, rfl, hI⟩ := h; exact hy f w hI
  | _ => exact h
theorem cutX {c : Code} (I : Fr → Prop) (hI : I f) (h : ∀ f, I f → c.wpIn (FX r) 0 P Q (mkd n f ds) w) : c.wpIn (FX r) 0 P Q (mkd n f ds) w := h f hI
theorem loopX {c : Code} {a : Act} (I : Fr → World → Nat → Prop) (k : Nat) (h0 : ∃ f, a = mkd n f ds ∧ I f w k) (hstep : ∀ f w k, I f w k → c.wpIn (FX r) 0 P (Exit.then (fun a' w' => ∃ f' k', a' = mkd n f' ds ∧ I f' w' k' ∧ k' < k) Q) (mkd n f ds) w) : (Code.loop c).wpIn (FX r) 0 P Q a w := by
  obtain ⟨f, rfl, hI⟩ := h0
  intro b kk cs hro hb hr
  have key : ∀ k f w, I f w k → ∃ e a' w', Q e a' w' ∧ ArrivesIn (Machine.fenced P (FX r)) P (lone (b.atR (mkd n f ds) (.code c :: .inLoop c :: kk)) cs w) b kk cs e a' w' := by
    intro k
    induction k using Nat.strongRecOn with
    | _ k ih =>
      intro f w hI
      obtain ⟨e, a₁, w₁, hq, harr⟩ := hstep f w k hI b (.inLoop c :: kk) cs hro hb hr
      cases e with
      | normal =>
        obtain ⟨f', k', rfl, hI', hlt⟩ := hq
        obtain ⟨e₂, a₂, w₂, hq₂, harr₂⟩ := ih k' hlt f' w₁ hI'
        exact ⟨e₂, a₂, w₂, hq₂, .of_steps (StepsIn.trans harr (.one (fenced_calm hb hr rfl) stepR_inLoop)) harr₂⟩
      | exit id => exact ⟨_, a₁, w₁, hq, .pass (x := .inLoop c) rfl (fun _ _ => .inl (by simp)) harr⟩
      | goto l => exact ⟨_, a₁, w₁, hq, .pass (x := .inLoop c) rfl (fun _ _ => .inl (by simp)) harr⟩
      | ret => exact ⟨_, a₁, w₁, hq, .pass (x := .inLoop c) rfl (fun _ _ => .inl (by simp)) harr⟩
      | panic ch => exact ⟨_, a₁, w₁, hq, .pass (x := .inLoop c) rfl (fun _ _ => .inl (by simp)) harr⟩
      | outgrown => exact ⟨_, a₁, w₁, hq, .pass (x := .inLoop c) rfl (fun _ _ => .inl (by simp)) harr⟩
  obtain ⟨e, a', w', hq, harr⟩ := key k f w hI
  exact ⟨e, a', w', hq, .of_steps (.one (fenced_calm hb hr rfl) stepR_loop) harr⟩
end
end Bx
/- part LibS -/
namespace Bx
open Go Go.RowKit
theorem StX.perm {S : List Nat} {w0 w : World} {L M : List Item} (h : StX S w0 w L) (hp : L.Perm M) : StX S w0 w M := by
  have hf : (fps L).Perm (fps M) := List.Perm.flatMap_right _ hp
  exact ⟨h.extx, fun it hit => h.ok it (hp.mem_iff.2 hit), fun b hb => h.own b (hf.mem_iff.2 hb), hf.nodup_iff.1 h.apart⟩
section
variable {P : Program} {ops : Array Oper} {r : Option Nat} {ds : List Deferred} {Q : Exit → Act → World → Prop} {n : Nat} {f : Fr} {w : World}
/-! ### a part of a statement by the plain laws -/
theorem app_in {F : Fence} {m : Nat} {l2 : List Oper} : ∀ (l1 : List Oper) (a : Act) (w : World), wpListIn F m P ops (Exit.then (wpListIn F m P ops Q l2) Q) l1 a w → wpListIn F m P ops Q (l1 ++ l2) a w
  | [], _, _, h => h
  | o :: rest, a, w, h => by
    rw [List.cons_append]
    unfold wpListIn at h ⊢
    by_cases hw : Region.wanted o (yielded ops a.tmps) = true
    · rw [if_pos hw] at h ⊢
      exact Oper.wpIn_mono (Q := Q) (fun a w hh => app_in rest a w hh) h
    · rw [if_neg hw] at h ⊢
      exact ⟨h.1, app_in rest _ w h.2⟩
theorem preX (k : Nat) {l : List Oper} [i : NoOut Q] (hn : (l.take k).all noDefer = true) (h : wpL P ops (reD ds (Exit.then (wpListIn (FX r) 0 P ops Q (l.drop k)) Q)) n (l.take k) f w) : wpListIn (FX r) 0 P ops Q l (mkd n f ds) w := by
  have h2 := app_in (F := FX r) (m := 0) (l.take k) (mkd n f ds) w (list_up (no_reD noThen) (l.take k) _ w hn h)
  rwa [List.take_append_drop] at h2
theorem nilX {l2 : List Oper} (h : wpListIn (FX r) 0 P ops Q l2 (mkd n f ds) w) : wpL P ops (reD ds (Exit.then (wpListIn (FX r) 0 P ops Q l2) Q)) n [] f w := h
theorem regionL {id : Nat} {l : List Oper} (h : wpListIn (FX r) 0 P l.toArray Q l (mkd n f ds) w) : (Code.region id l.toArray false).wpIn (FX r) 0 P Q (mkd n f ds) w := wpIn_region_lit h
theorem endX {l : List Oper} [i : NoOut Q] (hn : l.all noDefer = true) (h : wpL P ops (reD ds Q) n l f w) : wpListIn (FX r) 0 P ops Q l (mkd n f ds) w := list_up (no_reD i) l _ w hn h
/-! ### a call of yield -/
/-- What a call of yield does. -/
def YieldIn (P : Program) (l : Nat) (vs : List Value) (w : World) (R : Value → World → Prop) : Prop :=
  ∃ fn tmps assign body, (Instr.yield l vs.toArray).run P w = .ok (.round l fn tmps assign body) w ∧ RoundIn (FX none) 0 P l fn tmps assign body w fun e w' => ∃ v, e = .returned v ∧ R v w'
theorem yield_run {ρ : Operand → Value} {ty : TypeId} {fx : Operand} {xs : List Operand} {ts : Array TypeId} {l : Nat} {vs : List Value} {res : Result Next} (hf : ρ fx = .func (.yield l) #[] #[]) (ha : Evs ρ xs vs) (hy : (Instr.yield l vs.toArray).run P w = res) :
    (xop ρ (.call ⟨.value fx, xs.toArray, ts⟩) ty).run P w = res := by
  unfold Evs at ha
  simp only [xop, execOp, resolve, hf, Deferred.ofValue, Sem.run_bind, Sem.run_pure, Result.andThen_ok, invoke, List.map_toArray, ha]
  simpa using hy
variable {rest : List Oper} {d : Nat} {ty : TypeId} {pos : String} {af : Array Edge}
theorem yield_in {fx : Operand} {xs : List Operand} {ts : Array TypeId} {l : Nat} {vs : List Value} {g : Option (Nat × Bool)} {R : Value → World → Prop} {K : Act → World → Prop} (hf : ev n f fx = .func (.yield l) #[] #[]) (ha : Evs (ev n f) xs vs) (hy : YieldIn P l vs w R)
    (h : ∀ v w', R v w' → K (mkd n (upd f d v) ds) w') : (Oper.mk (some d) (.call ⟨.value fx, xs.toArray, ts⟩) ty pos af g).wpIn (FX none) 0 P (mkd n f ds) w K Q := by
  obtain ⟨fn, tmps, assign, body, hr, hR⟩ := hy
  refine ⟨fun _ _ => trivial, ?_⟩
  rw [Oper.semAt_plain (FX none) _ _ (noDefer_spec rfl), wD_eval, mk_eval, execOp_xop, yield_run hf ha hr, Oper.uponIn_round]
  refine ⟨fun h => (by cases h), RoundIn.mono hR ?_⟩
  rintro e w' ⟨v, rfl, hv⟩
  show K ((wD ds (mk n f)).put (some d) v) w'
  rw [wD_put, mk_put]
  exact h v w' hv
theorem yieldU {fx : Operand} {xs : List Operand} {ts : Array TypeId} {l : Nat} {vs : List Value} {R : Value → World → Prop} (hf : ev n f fx = .func (.yield l) #[] #[]) (ha : Evs (ev n f) xs vs) (hy : YieldIn P l vs w R)
    (h : ∀ v w', R v w' → wpListIn (FX none) 0 P ops Q rest (mkd n (upd f d v) ds) w') : wpListIn (FX none) 0 P ops Q (⟨some d, .call ⟨.value fx, xs.toArray, ts⟩, ty, pos, af, none⟩ :: rest) (mkd n f ds) w := by
  unfold wpListIn
  rw [if_pos (by simp [Region.wanted])]
  exact yield_in hf ha hy h
theorem yieldG {j : Nat} {want : Bool} {dj : Nat} {fx : Operand} {xs : List Operand} {ts : Array TypeId} {l : Nat} {vs : List Value} {R : Value → World → Prop} {B : Bool} (hd : dstOf ops j = some dj) (hn : Nat.blt dj n = true) (hb : f dj = .bool B)
    (h0 : B ≠ want → wpListIn (FX none) 0 P ops Q rest (mkd n (upd f d undef) ds) w)
    (h1 : B = want → ev n f fx = .func (.yield l) #[] #[] ∧ Evs (ev n f) xs vs ∧ YieldIn P l vs w R ∧ ∀ v w', R v w' → wpListIn (FX none) 0 P ops Q rest (mkd n (upd f d v) ds) w') :
    wpListIn (FX none) 0 P ops Q (⟨some d, .call ⟨.value fx, xs.toArray, ts⟩, ty, pos, af, some (j, want)⟩ :: rest) (mkd n f ds) w := by
  have hy : yielded ops (mkd n f ds).tmps j = some B := by
    have := yielded_eq (f := f) hd (by simpa [Nat.blt_eq] using hn)
    rw [hb] at this
    exact this
  unfold wpListIn
  by_cases hw : B = want
  · rw [if_pos (by simp [Region.wanted, hy, hw])]
    obtain ⟨k1, k2, k3, k4⟩ := h1 hw
    exact yield_in k1 k2 k3 k4
  · rw [if_neg (by simp [Region.wanted, hy, hw])]
    refine ⟨fun _ _ => trivial, ?_⟩
    rw [wD_put, mk_put]
    exact h0 hw
/-! ### the function that holds the statement; the leaf -/
theorem enterX {g : FuncId} {fn : Func} {c : Code} {args : List Value} {R : Value → World → Prop} (hf : P.funcs[g]? = some fn) (hb : fn.body = some c) (hn : fn.ntmps = n) (hl : Nat.ble args.length n = true)
    (h : c.wpIn (FX none) 0 P (bodyPostM (FX none) 0 P fn fun e w' => ∃ v, e = .returned v ∧ R v w') (mkd n (ini args) []) w) : CE P g args.toArray w R := by
  rw [Nat.ble_eq] at hl
  refine callsIn_wide.1 (callsIn_of_wp_marks (F := FX none) (n := 0) hf hb trivial ?_)
  have : ({ tmps := args.toArray ++ Array.replicate (fn.ntmps - args.toArray.size) undef, defers := [] } : Act) = mkd n (ini args) [] := by
    simp only [mkd, wD, mk, Act.mk.injEq, List.append_nil, and_true]
    apply Array.ext_getElem?
    intro t
    rw [hn]
    simp only [Array.getElem?_append, List.size_toArray, List.getElem?_toArray, Array.getElem?_replicate, List.getElem?_map]
    have hi : ini args t = args.getD t undef := rfl
    by_cases h1 : t < args.length
    · simp [h1, hi, show t < n by omega, List.getD]
    · by_cases h2 : t < n
      · simp [h1, h2, hi, List.getD, show t - args.length < n - args.length by omega]
      · simp [h1, h2, show ¬ t - args.length < n - args.length by omega]
  rw [this]
  exact h
/-- The mark of a loop's block. -/
abbrev coll (D : Nat) : Deferred := { target := .collected D, args := #[] }
theorem put_obj {b : Nat} {o o' : Obj} (h : w.heap[b]? = some o) : Put b o' w (w.putObj b o') := by
  have hb := (Array.getElem?_eq_some_iff.1 h).1
  exact ⟨rfl, rfl, rfl, by simp, World.putObj_heap_same hb, fun k hk hn => World.putObj_heap_other hn⟩
theorem leafX {fn : Func} {R : Value → World → Prop} {v : Value} (hr : (results fn (mk n f).tmps).run P w = .ok v w) (h : R v w) : bodyPostM (FX none) 0 P fn (fun e w' => ∃ v, e = .returned v ∧ R v w') .ret (mkd n f []) w :=
  ⟨v, hr, v, rfl, h⟩
theorem leafXN {fn : Func} {R : Value → World → Prop} {v : Value} (hr : (results fn (mk n f).tmps).run P w = .ok v w) (h : R v w) : bodyPostM (FX none) 0 P fn (fun e w' => ∃ v, e = .returned v ∧ R v w') .normal (mkd n f []) w :=
  ⟨v, hr, v, rfl, h⟩
theorem leafD {fn : Func} {S : List Nat} {w0 : World} {L L' : List Item} {D : Nat} {R : Value → World → Prop} {v : Value} (hS : StX S w0 w L) [i : AtB L D (Eq (.deferred (some [])))] [j : SetB L D (Eq (.deferred none)) L']
    (hr : ∀ w', StX S w0 w' L' → (results fn (mk n f).tmps).run P w' = .ok v w') (h : ∀ w', StX S w0 w' L' → R v w') : bodyPostM (FX none) 0 P fn (fun e w' => ∃ v, e = .returned v ∧ R v w') .ret (mkd n f [coll D]) w := by
  have h0 := hS.at D (o := .deferred (some []))
  have hS' : StX S w0 (w.putObj D (.deferred none)) L' := hS.put (put_obj h0)
  exact ⟨by simp, .inl ⟨D, _, rfl, run_takeDeferred h0, v, hr _ hS', v, rfl, h _ hS'⟩⟩
theorem retX {a : Act} (h : Q .ret a w) : Code.ret.wpIn (FX r) 0 P Q a w := wpIn_ret h
/-! ### the statement -/
/-- The contract of an iterator: cl are its captured values, R its own parts, xs what it hands over. -/
def ItC {α : Type} (P : Program) (g : FuncId) (cl : List Value) (w0 : World) (R : List Item) (enc : α → List Value) (xs : List α) : Prop :=
  ∀ (l : Nat) (Cb : Bool → List α → List Item → Prop) (w : World) (L : List Item),
    (∀ pre x w L M, (pre ++ [x]) <+: xs → Cb true pre L → StX [] w0 w (M ++ L) → YieldIn P l (enc x) w fun v w' => ∃ b L', v = .bool b ∧ Cb b (pre ++ [x]) L' ∧ StX [] w0 w' (M ++ L')) →
    Cb true [] L → StX [] w0 w (R ++ L) → CE P g (.func (.yield l) #[] #[] :: cl).toArray w fun _ w' => ∃ L', StX [] w0 w' L' ∧ (Cb true xs L' ∨ ∃ pre, Cb false pre L')
/-- How a round may end: off its end, or by a jump. -/
def RPost (w0 : World) (Cb : Option Code → List Item → Prop) (M : List Item) : Exit → Act → World → Prop
  | .normal, _, w => ∃ L, Cb none L ∧ StX [] w0 w (L ++ M)
  | .ret, _, w => ∃ L, Cb (some .ret) L ∧ StX [] w0 w (L ++ M)
  | .exit id, _, w => ∃ L, Cb (some (.exit id)) L ∧ StX [] w0 w (L ++ M)
  | .goto t, _, w => ∃ L, Cb (some (.goto t)) L ∧ StX [] w0 w (L ++ M)
  | .panic _, _, _ => False
  | .outgrown, _, _ => False
instance noRP {w0 : World} {Cb : Option Code → List Item → Prop} {M : List Item} : NoOut (RPost w0 Cb M) := ⟨fun _ _ h => h⟩
/-- How the assignment to the loop's variables ends. -/
def APost (K : Act → World → Prop) : Exit → Act → World → Prop := Exit.then K (fun _ _ _ => False)
instance noAP {K : Act → World → Prop} : NoOut (APost K) := ⟨fun _ _ h => h⟩
def updz : List Nat → List Value → Fr → Fr
  | p :: ps, v :: vs, f => updz ps vs (upd f p v)
  | _, _, f => f
theorem put_tmps (n : Nat) (f : Fr) (d : Nat) (v : Value) : (mk n f).tmps.setIfInBounds d v = (mk n (upd f d v)).tmps := congrArg Act.tmps (mk_put n f d v)
theorem foldl_updz (n : Nat) : ∀ (ps : List Nat) (vs : List Value) (f : Fr), (ps.zip vs).foldl (fun t (p : Nat × Value) => t.setIfInBounds p.1 p.2) (mk n f).tmps = (mk n (updz ps vs f)).tmps
  | [], _, _ => rfl
  | _ :: _, [], _ => rfl
  | p :: ps, v :: vs, f => by
    show (ps.zip vs).foldl _ ((mk n f).tmps.setIfInBounds p v) = _
    rw [put_tmps]
    exact foldl_updz n ps vs (upd f p v)
end
end Bx
/- part LibT -/
namespace Bx
open Go Go.RowKit
section
variable {P : Program} {Q : Exit → Act → World → Prop} {n : Nat} {f : Fr} {w : World}
theorem perm3 {α : Type} (A B : List α) (x y : α) : (A ++ (x :: y :: B)).Perm (x :: y :: (A ++ B)) :=
  List.perm_middle.trans (List.Perm.cons x List.perm_middle)
theorem rangeX {α : Type} {enc : α → List Value} {xs : List α} {w0 : World} {R L0 : List Item} {g : Operand} {gf : FuncId} {cl : List Value} {ps : List Nat} {assign body : Code} [hnQ : NoOut Q]
    (hg : ev n f g = .func (.func gf) #[] cl.toArray) (eg : ∀ ars w, (callFunc gf ars).run P w = .ok (.enter gf ars) w)
    (hS : StX [] w0 w (R ++ L0)) (hit : ItC P gf cl w0 R enc xs)
    (Cb : Option Code → List α → List Item → Prop) (h0 : Cb none [] L0) (hps : ∀ x ∈ xs, (enc x).length = ps.length)
    (hround : ∀ l pre x w L M, (pre ++ [x]) <+: xs → Cb none pre L → StX [] w0 w (L ++ M) →
      assign.wpIn (FX (some l)) 0 P (APost fun a w₁ => ∃ f' L', a = mkd n f' [] ∧ StX [] w0 w₁ (L' ++ M) ∧ ∀ M' w₂, StX [] w0 w₂ (L' ++ M') → body.wpIn (FX (some l)) 0 P (RPost w0 (fun c => Cb c (pre ++ [x])) M') (mkd n f' []) w₂) (mkd n (updz ps (enc x) f) []) w)
    (hdone : ∀ D w L, Cb none xs L → StX [] w0 w (obj D (.deferred (some [])) :: L) → Q .normal (mkd n f [coll D]) w)
    (hstop : ∀ D w L c pre, Cb (some c) pre L → StX [] w0 w (obj D (.deferred (some [])) :: L) → c.wpIn (FX none) 0 P Q (mkd n f [coll D]) w) :
    (Code.rangeFunc g ps.toArray assign body).wpIn (FX none) 0 P Q (mkd n f []) w := by
  refine wpIn_rangeFunc ?_
  intro fn hfn
  show ∃ _, _
  obtain ⟨rec, hrec⟩ : ∃ rec : LoopState → Option Code → Loop, rec = fun st pe => { state := st, pending := pe, fn, tmps := (mkd n f []).tmps, params := ps.toArray, assign, body, defers := w.heap.size } := ⟨_, rfl⟩
  obtain ⟨W1, hW1⟩ : ∃ W1, (w.alloc (.deferred (some []))).alloc (.loop (rec .ready none)) = W1 := ⟨_, rfl⟩
  obtain ⟨l, hl⟩ : ∃ l, l = w.heap.size + 1 := ⟨_, rfl⟩
  obtain ⟨D, hD⟩ : ∃ D, D = w.heap.size := ⟨_, rfl⟩
  have hS1 : StX [] w0 W1 (obj l (.loop (rec .ready none)) :: obj D (.deferred (some [])) :: (R ++ L0)) := by
    have e1 := hS.call1 (St.new w (.deferred (some [])))
    have e2 := e1.call1 (St.new (w.alloc (.deferred (some []))) (.loop (rec .ready none)))
    rw [World.size_alloc] at e2
    rw [← hW1, hl, hD]
    exact e2
  have hS2 : StX [] w0 W1 (R ++ (obj l (.loop (rec .ready none)) :: obj D (.deferred (some [])) :: L0)) := hS1.perm (perm3 _ _ _ _).symm
  refine ⟨l, [coll D], W1, { target := .fn (.func gf) cl.toArray, args := #[.func (.yield l) #[] #[]] }, W1, gf, (.func (.yield l) #[] #[] :: cl).toArray, W1, ?_, ?_, fun _ _ => trivial, ?_, fun h => (by cases h), ?_⟩
  · rw [← hW1, hrec, hl, hD]
    exact run_enterLoop_outer _ _ _ _ _
  · have hg' : (mkd n f []).eval g = .func (.func gf) #[] cl.toArray := by rw [wD_eval, mk_eval, hg]
    simp only [resolve, hg']
    simp [go_sem]
  · simp only [invoke, eg]
    simp
  · let Cb' : Bool → List α → List Item → Prop := fun b pre LL => ∃ c L, b = c.isNone ∧ LL = obj l (.loop (rec (if c.isNone then .ready else .done) c)) :: obj D (.deferred (some [])) :: L ∧ Cb c pre L
    refine CallsIn.mono (calls_in (hit l Cb' W1 _ ?_ ⟨none, L0, rfl, rfl, h0⟩ hS2)) ?_
    · rintro pre x w L M hpre ⟨c, L, hc, rfl, hcb⟩ hSt
      obtain rfl : c = none := by cases c with | none => rfl | some c => exact absurd hc (by simp)
      have hSt' : StX [] w0 w (obj l (.loop (rec .ready none)) :: obj D (.deferred (some [])) :: (M ++ L)) := hSt.perm (perm3 _ _ _ _)
      have hl0 := hSt'.at l (o := .loop (rec .ready none))
      have hx : x ∈ xs := hpre.subset (by simp)
      have hy := run_yield (P := P) (args := (enc x).toArray) hl0 (by rw [hrec]; simp [hps x hx])
      rw [hrec] at hy
      have ht : (ps.toArray.zip (enc x).toArray).foldl (fun tmps (p : Nat × Value) => tmps.setIfInBounds p.1 p.2) (mkd n f []).tmps = (mk n (updz ps (enc x) f)).tmps := by
        rw [List.zip_toArray, List.foldl_toArray]
        exact foldl_updz n ps (enc x) f
      have ht' : (ps.toArray.zip (enc x).toArray).foldl (fun tmps (t, a) => tmps.setIfInBounds t a) (mkd n f []).tmps = (mk n (updz ps (enc x) f)).tmps := ht
      simp only [ht'] at hy
      refine ⟨fn, _, assign, body, hy, roundIn_of_wpIn hfn ?_⟩
      have hStM : StX [] w0 w (L ++ (obj l (.loop (rec .ready none)) :: obj D (.deferred (some [])) :: M)) := hSt'.perm (((List.perm_append_comm (l₁ := M) (l₂ := L)).cons _).cons _ |>.trans (perm3 _ _ _ _).symm)
      refine wpIn_mono (hround l pre x w L _ hpre hcb hStM) ?_
      intro e a1 w1 hp
      cases e with
      | normal =>
        obtain ⟨f', L', rfl, hS3, hbody⟩ := hp
        have hS3' : StX [] w0 w1 (obj l (.loop (rec .ready none)) :: obj D (.deferred (some [])) :: (L' ++ M)) := hS3.perm (perm3 _ _ _ _)
        have hl1 := hS3'.at l (o := .loop (rec .ready none))
        refine ⟨_, run_beginRound hl1 (by rw [hrec]), ?_⟩
        have hS4 : StX [] w0 (w1.putObj l (.loop { rec .ready none with state := .busy })) (obj l (.loop { rec .ready none with state := .busy }) :: obj D (.deferred (some [])) :: (L' ++ M)) := hS3'.put (put_obj hl1)
        refine wpIn_mono (hbody _ _ (hS4.perm (perm3 _ _ _ _).symm)) ?_
        have fin : ∀ (c : Option Code) (w2 : World) (L2 : List Item), Cb c (pre ++ [x]) L2 → StX [] w0 w2 (L2 ++ (obj l (.loop { rec .ready none with state := .busy }) :: obj D (.deferred (some [])) :: M)) →
            ∃ v w', (Instr.endRound l c).run P w2 = .ok v w' ∧ ∃ u, Ending.returned v = .returned u ∧ ∃ b L', u = .bool b ∧ Cb' b (pre ++ [x]) L' ∧ StX [] w0 w' (M ++ L') := by
          intro c w2 L2 hc2 hS5
          have hS5' := hS5.perm (perm3 _ _ _ _)
          have hl2 := hS5'.at l (o := .loop { rec .ready none with state := .busy })
          have he := run_endRound (P := P) c hl2
          refine ⟨_, _, he, _, rfl, _, _, rfl, ⟨c, L2, rfl, rfl, hc2⟩, ?_⟩
          have hS6 : StX [] w0 (w2.putObj l (.loop { { rec .ready none with state := .busy } with state := if c.isNone then .ready else .done, pending := c })) (obj l (.loop { { rec .ready none with state := .busy } with state := if c.isNone then .ready else .done, pending := c }) :: obj D (.deferred (some [])) :: (L2 ++ M)) := hS5'.put (put_obj hl2)
          have hr : ({ { rec .ready none with state := .busy } with state := if c.isNone then .ready else .done, pending := c } : Loop) = rec (if c.isNone then .ready else .done) c := by rw [hrec]
          rw [hr] at hS6 ⊢
          exact hS6.perm (((List.perm_append_comm (l₁ := L2) (l₂ := M)).cons _).cons _ |>.trans (perm3 _ _ _ _).symm)
        intro e a2 w2 hp2
        cases e with
        | normal => obtain ⟨L2, hc2, hS5⟩ := hp2; exact fin none w2 L2 hc2 hS5
        | ret => obtain ⟨L2, hc2, hS5⟩ := hp2; exact fin _ w2 L2 hc2 hS5
        | exit id => obtain ⟨L2, hc2, hS5⟩ := hp2; exact fin _ w2 L2 hc2 hS5
        | goto t => obtain ⟨L2, hc2, hS5⟩ := hp2; exact fin _ w2 L2 hc2 hS5
        | panic c => exact hp2.elim
        | outgrown => exact hp2.elim
      | _ => exact hp.elim
    · rintro e w3 ⟨v, rfl, LL, hS7, hcb⟩
      have key : ∀ (c : Option Code) (L : List Item), StX [] w0 w3 (obj l (.loop (rec (if c.isNone then .ready else .done) c)) :: obj D (.deferred (some [])) :: L) →
          ∃ w4, (Instr.endLoop l).run P w3 = .ok c w4 ∧ StX [] w0 w4 (obj D (.deferred (some [])) :: L) := by
        intro c L hS8
        have hl3 := hS8.at l (o := .loop (rec (if c.isNone then .ready else .done) c))
        have he := run_endLoop (P := P) hl3 (by rw [hrec]; cases c <;> simp)
        have hp : (rec (if c.isNone then .ready else .done) c).pending = c := by rw [hrec]
        refine ⟨_, he.trans (congrArg (fun p => Result.ok p _) hp), ?_⟩
        have hS9 : StX [] w0 _ (obj l (.loop { rec (if c.isNone then .ready else .done) c with state := .exhausted }) :: obj D (.deferred (some [])) :: L) := hS8.put (put_obj (o' := .loop { rec (if c.isNone then .ready else .done) c with state := .exhausted }) hl3)
        exact hS9.sub (List.sublist_cons_self _ _)
      rcases hcb with ⟨c, L, hc, rfl, hcb⟩ | ⟨pre, c, L, hc, rfl, hcb⟩
      · obtain rfl : c = none := by cases c with | none => rfl | some c => exact absurd hc (by simp)
        obtain ⟨w4, he, hS9⟩ := key none L hS7
        exact ⟨none, w4, he, hdone D w4 L hcb hS9⟩
      · cases c with
        | none => simp at hc
        | some c =>
          obtain ⟨w4, he, hS9⟩ := key (some c) L hS7
          exact ⟨some c, w4, he, hstop D w4 L c pre hcb hS9⟩
/-! ### statements that draw their order -/
variable {r : Option Nat} {ds : List Deferred}
theorem drawX {id : Nat} {l : List Oper} [i : NoOut Q] (hm : P.follows .mixedOrders = true) (hn : l.all noDefer = true) (h : wpAny P .any l.toArray (reD ds Q) l.toArray.size (Array.replicate l.toArray.size false) (mk n f) { w with drawn := w.drawn + 1 }) : (Code.region id l.toArray true).wpIn (FX r) 0 P Q (mkd n f ds) w :=
  wpIn_region_any hm (any_up (no_reD i) (by simpa using hn) _ _ _ _ h)
theorem region_drawX {S : List Nat} {w0 : World} {L : List Item} {id : Nat} {l : List Oper} [i : NoOut Q] (hm : P.follows .mixedOrders = true) (hB : Region.lexB .any l.toArray = true) (hn : l.all noDefer = true) (hS : StX S w0 w L)
    (h : wpQ P l.toArray S w0 L (fun a => ∀ w', StX S w0 w' L → reD ds Q .normal a w') n l f) : (Code.region id l.toArray true).wpIn (FX r) 0 P Q (mkd n f ds) w := by
  refine drawX hm hn ?_
  simp only [Region.lexB, Bool.and_eq_true] at hB
  have h1 := wpAnyQ_lex (P := P) (C := fun w => StX S w0 w L) (md := .any) hB.1 l.toArray.toList 0 (Array.replicate l.toArray.size false) (mk n f) (by simp) (by simpa using hB.2) h
  refine wpAny_of_quiet (C := fun w => StX S w0 w L) (Q := fun a' => ∀ w', StX S w0 w' L → reD ds Q .normal a' w') (fun _ w' hw' h => h w' hw') _ _ _ _ (hS.step (ext_drew w)) ?_
  simpa using h1
theorem region_tailX {S : List Nat} {w0 : World} {L : List Item} {id : Nat} {l : List Oper} [i : NoOut Q] (hm : P.follows .mixedOrders = true) (m : Nat) (hB : tailB l.toArray m = true) (hn : l.all noDefer = true) (hS : StX S w0 w L)
    (h : wpQ P (headOf l.toArray m) S w0 L (fun a => ∀ w', StX S w0 w' L → wpList P l.toArray (reD ds Q) (l.drop m) a w') n (l.take m) f) : (Code.region id l.toArray true).wpIn (FX r) 0 P Q (mkd n f ds) w := by
  refine drawX hm hn ?_
  simp only [tailB, Bool.and_eq_true, decide_eq_true_eq] at hB
  obtain ⟨⟨⟨⟨⟨hb, hs⟩, hc⟩, hm'⟩, hq⟩, hl⟩ := hB
  simp only [Region.lexB, Bool.and_eq_true] at hl
  have h1 := wpAnyQ_lex (P := P) (C := fun w => StX S w0 w L) (md := .any) hl.1 (l.toArray.toList.take m) 0 (Array.replicate (headOf l.toArray m).size false) (mk n f) (by simp [headOf]) (by simpa [headOf] using hl.2) h
  have h2 := wpAny_of_quiet (P := P) (Q' := headPost P l.toArray (reD ds Q) m) (fun a' w' hw' (h : ∀ w', StX S w0 w' L → wpList P l.toArray (reD ds Q) (l.toArray.toList.drop m) a' w') => h w' hw') _ _ (mk n f) { w with drawn := w.drawn + 1 } (hS.step (ext_drew w)) h1
  have hsz : (headOf l.toArray m).size = m := by simp [headOf] at *; omega
  have hlen : (l.toArray.toList.take m).length = m := by simp at *; omega
  rw [hsz, hlen] at h2
  have e : Array.replicate m false ++ Array.replicate (l.toArray.size - m) false = Array.replicate l.toArray.size false := by
    rw [Array.replicate_append_replicate, show m + (l.toArray.size - m) = l.toArray.size by omega]
  have inv : HeadInv .any l.toArray m (Array.replicate m false ++ Array.replicate (l.toArray.size - m) false) := by
    rw [e]
    refine ⟨by simp, fun j oj _ hl => ?_, fun t _ h2 => by simp only [List.size_toArray] at h2; simp [h2]⟩
    rw [getD_replicate_false] at hl
    cases hl
  have h3 := wpAny_head (P := P) (Q := reD ds Q) hb hs hc hm' hq m (Array.replicate m false) (mk n f) { w with drawn := w.drawn + 1 } (by simp) inv h2
  rw [show m + (l.toArray.size - m) = l.toArray.size by omega, e] at h3
  exact h3
/-- Without a panic. -/
def noP (Q : Exit → Act → World → Prop) : Exit → Act → World → Prop
  | .panic _, _, _ => False
  | .outgrown, _, _ => False
  | e, a, w => Q e a w
instance noNoP : NoOut (noP Q) := ⟨fun _ _ h => h⟩
theorem region_anyX {C : World → Prop} {S : List Nat} {w0 : World} {L : List Item} {id : Nat} {l : List Oper} (hm : P.follows .mixedOrders = true) (k m : Nat) (hB : (Region.noSelect l.toArray && headB .any l.toArray m k 0 (Array.replicate l.length false) && Nat.ble k l.length) = true) (hn : l.all noDefer = true) (hS : StX S w0 w L) (hC : ∀ w, StX S w0 w L → C w)
    (h : ∀ w, StX S w0 w L → wpHead P l.toArray C (fun a' => wpAC P .any l.toArray (reD ds (noP Q)) C m (l.length - k) (listAt k 0 (Array.replicate l.length false)) a' w) (l.take k) (mk n f)) : (Code.region id l.toArray true).wpIn (FX r) 0 P Q (mkd n f ds) w := by
  refine wpIn_mono (Q := noP Q) ?_ (fun e a w h => by cases e <;> first | exact h | exact h.elim)
  simp only [Bool.and_eq_true, Nat.ble_eq] at hB
  obtain ⟨⟨hs, hh⟩, hk⟩ := hB
  have hlen : (l.take k).length = k := by simp; omega
  have hS' := hS.step (ext_drew w)
  refine drawX hm hn (wpAny_of_AC (C := C) (m := m) _ _ _ _ ?_)
  have := wpAC_head (P := P) (Q := reD ds (noP Q)) (C := C) (m := m) (md := .any) (ops := l.toArray) hs (fun c a a' w h => h) (l.length - k) (hC _ hS') (l.take k) 0 (Array.replicate l.length false) (mk n f) (fun j hj => by rw [hlen] at hj; simp [hj]) (by rw [hlen]; exact hh) (by rw [hlen]; exact h _ hS')
  rw [hlen, show k + (l.length - k) = l.length by omega] at this
  simpa using this
end
end Bx
/- part Wk1 -/
namespace Go.Proofs.Ytpgmehignepidaa
open Go Bx
/-- barrage/tide.out -/
theorem c_out {a lo hi : Int} {w0 : World} : CV Try.prog 54 #[.int .i64 a, .int .i64 lo, .int .i64 hi] w0 (.bool (outB a lo hi)) := by
  refine enter Try.func54 rfl Try.ntmps54 rfl ?_
  have hS := St.start w0
  refine seq ?_
  refine region ?_
  refine sv (yAsg rfl) ?_
  refine nil ?_
  show Code.wp _ _ _ _ _
  refine seq ?_
  refine region ?_
  refine sv (yMove rfl) ?_
  refine sv (yMove rfl) ?_
  refine sv (yLss rfl rfl) ?_
  refine sv (yMove rfl) ?_
  refine sg rfl rfl rfl (fun g => (yMove rfl)) (fun v11 g11 => ?_)
  refine sg rfl rfl rfl (fun g => (yMove rfl)) (fun v12 g12 => ?_)
  refine sg rfl rfl rfl (fun g => (yGtr (g11.1 g) (g12.1 g))) (fun v13 g13 => ?_)
  refine sv (yOr rfl rfl (fun hB => (g13.1 hB))) ?_
  refine sv (yAsg rfl) ?_
  refine nil ?_
  show Code.wp _ _ _ _ _
  refine wp_ret ?_
  exact retV (res1 rfl rfl) hS.ext
/-- barrage/barrageref01.in -/
theorem c_in {a lo hi : Int} {w0 : World} : CV Try.prog 63 #[.int .i64 a, .int .i64 lo, .int .i64 hi] w0 (.bool (inB a lo hi)) := by
  refine enter Try.func63 rfl Try.ntmps63 rfl ?_
  have hS := St.start w0
  refine seq ?_
  refine region ?_
  refine sv (yAsg rfl) ?_
  refine nil ?_
  show Code.wp _ _ _ _ _
  refine seq ?_
  refine region ?_
  refine sv (yMove rfl) ?_
  refine sv (yMove rfl) ?_
  refine sv (yGeq rfl rfl) ?_
  refine sv (yMove rfl) ?_
  refine sg rfl rfl rfl (fun g => (yMove rfl)) (fun v11 g11 => ?_)
  refine sg rfl rfl rfl (fun g => (yMove rfl)) (fun v12 g12 => ?_)
  refine sg rfl rfl rfl (fun g => (yLeq (g11.1 g) (g12.1 g))) (fun v13 g13 => ?_)
  refine sv (yAnd rfl (fun hB => (g13.1 hB)) rfl) ?_
  refine sv (yAsg rfl) ?_
  refine nil ?_
  show Code.wp _ _ _ _ _
  refine wp_ret ?_
  exact retV (res1 rfl rfl) hS.ext
/-- barrage/tide.Name -/
theorem c_Name {s : ByteArray} {w0 : World} (hs : s.size ≤ 9223372036854775807) : CV Try.prog 21 #[.string s] w0 (.bool (isName s)) := by
  refine enter Try.func21 rfl Try.ntmps21 rfl ?_
  have hS := St.start w0
  refine seq ?_
  refine region ?_
  refine sv (yAsg rfl) ?_
  refine nil ?_
  show Code.wp _ _ _ _ _
  refine seq ?_
  refine seq ?_
  refine region ?_
  refine sv (yMove rfl) ?_
  refine sv (yLenS rfl Try.underlying9) ?_
  refine sv (yMove rfl) ?_
  refine nil ?_
  show Code.wp _ _ _ _ _
  refine block ?_
  refine loop (fun f w zz => ∃ (k : Nat), f 0 = .string s ∧ f 6 = .int .i64 (s.size : Int) ∧ f 7 = .int .i64 (k : Int) ∧ StX [] w0 w [] ∧ (k ≤ s.size) ∧ (∀ i, i < k → okAt s i) ∧ zz = s.size - k) _ ⟨_, rfl, 0, rfl, rfl, rfl, hS, (Nat.zero_le _), (fun i hi => absurd hi (Nat.not_lt_zero i)), rfl⟩ ?_
  clear hS
  rintro f w _ ⟨k, h0, h6, h7, hS, hk, hP, rfl⟩
  refine seq ?_
  refine region ?_
  refine sv (yLss h7 h6) ?_
  refine nil ?_
  show Code.wp _ _ _ _ _
  refine seq ?_
  refine cond rfl (fun c8 => ?_) (fun c8 => ?_)
  ·
    simp only [Bool.and_eq_true, Bool.or_eq_true, Bool.and_eq_false_iff, Bool.or_eq_false_iff, decide_eq_true_eq, decide_eq_false_iff_not, Bool.not_eq_true, Bool.not_eq_false, Bool.not_not, Bool.not_eq_eq_eq_not, Bool.not_true, Bool.not_false, Bool.false_eq_true, Bool.true_eq_false, ne_eq, Decidable.not_not, not_false_eq_true, not_true_eq_false] at c8
    refine skip ?_
    show Code.wp _ _ _ _ _
    refine seq ?_
    refine block ?_
    refine seq ?_
    refine region ?_
    refine sv (yMove h7) ?_
    refine sv (yAsg rfl) ?_
    refine nil ?_
    show Code.wp _ _ _ _ _
    refine seq ?_
    refine region ?_
    refine sv (yMove h0) ?_
    refine sv (yMove rfl) ?_
    refine sv (yIxS rfl rfl Try.underlying9 (getElem?_pos s k (by omega))) ?_
    refine sv (yAsg rfl) ?_
    refine nil ?_
    show Code.wp _ _ _ _ _
    refine block ?_
    refine seq ?_
    refine region ?_
    refine sv (yMove rfl) ?_
    refine sv (yLeq rfl rfl) ?_
    refine sv (yMove rfl) ?_
    refine sg rfl rfl rfl (fun g => (yMove rfl)) (fun v17 g17 => ?_)
    refine sg rfl rfl rfl (fun g => (yLeq (g17.1 g) rfl)) (fun v18 g18 => ?_)
    refine sv (yAnd rfl (fun hB => (g18.1 hB)) rfl) ?_
    refine sv (yAsg rfl) ?_
    refine nil ?_
    show Code.wp _ _ _ _ _
    refine cond rfl (fun c13 => ?_) (fun c13 => ?_)
    ·
      simp only [Bool.and_eq_true, Bool.or_eq_true, Bool.and_eq_false_iff, Bool.or_eq_false_iff, decide_eq_true_eq, decide_eq_false_iff_not, Bool.not_eq_true, Bool.not_eq_false, Bool.not_not, Bool.not_eq_eq_eq_not, Bool.not_true, Bool.not_false, Bool.false_eq_true, Bool.true_eq_false, ne_eq, Decidable.not_not, not_false_eq_true, not_true_eq_false] at c13
      refine skip ?_
      show Code.wp _ _ _ _ _
      refine region ?_
      refine sv (yAdd h7 rfl ⟨by omega, by omega⟩) ?_
      refine sv (yMove rfl) ?_
      refine nil ?_
      exact ⟨_, _, rfl, ⟨k + 1, h0, h6, rfl, hS, (by omega), (snoc hP ((okAt_of s k (by omega)).2 (by omega))), rfl⟩, by omega⟩
    ·
      simp only [Bool.and_eq_true, Bool.or_eq_true, Bool.and_eq_false_iff, Bool.or_eq_false_iff, decide_eq_true_eq, decide_eq_false_iff_not, Bool.not_eq_true, Bool.not_eq_false, Bool.not_not, Bool.not_eq_eq_eq_not, Bool.not_true, Bool.not_false, Bool.false_eq_true, Bool.true_eq_false, ne_eq, Decidable.not_not, not_false_eq_true, not_true_eq_false] at c13
      refine seq ?_
      refine region ?_
      refine sv (yMove rfl) ?_
      refine sv (yGtr rfl rfl) ?_
      refine sv (yMove rfl) ?_
      refine sg rfl rfl rfl (fun g => (yMove rfl)) (fun v24 g24 => ?_)
      refine sg rfl rfl rfl (fun g => (yEql (g24.1 g) rfl)) (fun v25 g25 => ?_)
      refine sg rfl rfl rfl (fun g => (yMove (g25.1 g))) (fun v26 g26 => ?_)
      refine sgg rfl rfl g26 (fun g => (yMove rfl)) (fun v27 g27 => ?_)
      refine sgg rfl rfl g26 (fun g => (yLeq rfl (g27.1 g))) (fun v28 g28 => ?_)
      refine sgg rfl rfl g26 (fun g => (yMove (g28.1 g))) (fun v29 g29 => ?_)
      refine sgg rfl rfl g29 (fun g => (yMove rfl)) (fun v30 g30 => ?_)
      refine sgg rfl rfl g29 (fun g => (yLeq (g30.1 g) rfl)) (fun v31 g31 => ?_)
      refine sgg rfl rfl g26 (fun g => (yAnd (g29.1 g) (fun hB => (g31.1 ⟨g, hB⟩)) rfl)) (fun v32 g32 => ?_)
      refine sg rfl rfl rfl (fun g => (yOr (g26.1 g) rfl (fun hB => (g32.1 ⟨g, hB⟩)))) (fun v33 g33 => ?_)
      refine sv (yAnd rfl (fun hB => (g33.1 hB)) rfl) ?_
      refine sv (yAsg rfl) ?_
      refine nil ?_
      show Code.wp _ _ _ _ _
      refine cond rfl (fun c20 => ?_) (fun c20 => ?_)
      ·
        simp only [Bool.and_eq_true, Bool.or_eq_true, Bool.and_eq_false_iff, Bool.or_eq_false_iff, decide_eq_true_eq, decide_eq_false_iff_not, Bool.not_eq_true, Bool.not_eq_false, Bool.not_not, Bool.not_eq_eq_eq_not, Bool.not_true, Bool.not_false, Bool.false_eq_true, Bool.true_eq_false, ne_eq, Decidable.not_not, not_false_eq_true, not_true_eq_false] at c20
        refine skip ?_
        show Code.wp _ _ _ _ _
        refine region ?_
        refine sv (yAdd h7 rfl ⟨by omega, by omega⟩) ?_
        refine sv (yMove rfl) ?_
        refine nil ?_
        exact ⟨_, _, rfl, ⟨k + 1, h0, h6, rfl, hS, (by omega), (snoc hP ((okAt_of s k (by omega)).2 (by omega))), rfl⟩, by omega⟩
      ·
        simp only [Bool.and_eq_true, Bool.or_eq_true, Bool.and_eq_false_iff, Bool.or_eq_false_iff, decide_eq_true_eq, decide_eq_false_iff_not, Bool.not_eq_true, Bool.not_eq_false, Bool.not_not, Bool.not_eq_eq_eq_not, Bool.not_true, Bool.not_false, Bool.false_eq_true, Bool.true_eq_false, ne_eq, Decidable.not_not, not_false_eq_true, not_true_eq_false] at c20
        refine seq ?_
        refine region ?_
        refine sv (yAsg rfl) ?_
        refine nil ?_
        show Code.wp _ _ _ _ _
        refine wp_ret (blockR (blockR (thenR (thenR (blockR (thenR ?_))))))
        exact retV (res1 rfl (by rw [isName_bad s k (by omega) (fun h => by have := (okAt_of s k (by omega)).1 h; omega)]; rfl)) hS.ext
  ·
    simp only [Bool.and_eq_true, Bool.or_eq_true, Bool.and_eq_false_iff, Bool.or_eq_false_iff, decide_eq_true_eq, decide_eq_false_iff_not, Bool.not_eq_true, Bool.not_eq_false, Bool.not_not, Bool.not_eq_eq_eq_not, Bool.not_true, Bool.not_false, Bool.false_eq_true, Bool.true_eq_false, ne_eq, Decidable.not_not, not_false_eq_true, not_true_eq_false] at c8
    refine exit ?_
    show Code.wp _ _ _ _ _
    refine seq ?_
    refine region ?_
    refine sv (yMove h0) ?_
    refine sv (ySNe rfl rfl) ?_
    refine sv (yMove rfl) ?_
    refine sg rfl rfl rfl (fun g => (yMove h0)) (fun v39 g39 => ?_)
    refine sg rfl rfl rfl (fun g => (yLenS (g39.1 g) Try.underlying9)) (fun v40 g40 => ?_)
    refine sg rfl rfl rfl (fun g => (yLeq (g40.1 g) rfl)) (fun v41 g41 => ?_)
    refine sv (yAnd rfl (fun hB => (g41.1 hB)) rfl) ?_
    refine sv (yAsg rfl) ?_
    refine nil ?_
    show Code.wp _ _ _ _ _
    refine wp_ret ?_
    exact retV (res1 rfl (by rw [isName_end s (fun i hi => hP i (by omega))]; rfl)) hS.ext
/-- barrage/tide.cycle -/
theorem c_cycle {v0 v2 v3 v5 : Value} {a : Option Addr} {len cap : Nat} {d : Int} {w0 : World} (hI : I64 (d * len)) : CV Try.prog 61 #[.agg #[v0, .slice a len cap, v2, v3, .int .i64 d, v5]] w0 (.int .i64 (d * len)) := by
  refine enter Try.func61 rfl Try.ntmps61 rfl ?_
  have hS := St.start w0
  refine seq ?_
  refine region ?_
  refine sbox hS rfl rfl ?_; clear hS; intro b1 w hS
  refine sv (yAsg rfl) ?_
  refine nil ?_
  show Code.wp _ _ _ _ _
  refine seq ?_
  refine region ?_
  refine sv (fa46_4 rfl) ?_
  refine sv (yLdB rfl Try.isAgg3 (hS.at _) rfl) ?_
  refine sv (fa46_1 rfl) ?_
  refine sv (yLdB rfl Try.isAgg44 (hS.at _) rfl) ?_
  refine sv (yLen rfl Try.underlying44) ?_
  refine sv (yMul rfl rfl hI) ?_
  refine sv (yAsg rfl) ?_
  refine nil ?_
  show Code.wp _ _ _ _ _
  refine wp_ret ?_
  exact retV (res1 rfl rfl) hS.ext
/-- slices.IndexFunc   int,int  -/
theorem c_IndexFuncInt {l : List Int} {p : Int → Bool} {v : Value} {g : Nat} {cl : List Value} {w0 : World} (hsl : Sl w0 1 RInt v l) (hcall : ∀ ys w, (callFunc g ys).run Try.prog w = .ok (.enter g ys) w) (hp : ∀ x cs w, x ∈ l → Ext w0 w → RInt w cs x → CV Try.prog g (.int .i64 x :: cl).toArray w (.bool (p x))) : CV Try.prog 97 #[v, .func (.func g) #[] cl.toArray] w0 (.int .i64 (idxF p l 0)) := by
  obtain ⟨a, cap, rfl, hcap, hmx, hel⟩ := hsl
  refine enter Try.func97 rfl Try.ntmps97 rfl ?_
  have hS := St.start w0
  refine seq ?_
  refine region ?_
  refine sv (yAsg rfl) ?_
  refine nil ?_
  show Code.wp _ _ _ _ _
  refine seq ?_
  refine seq ?_
  refine region ?_
  refine sv (yMove rfl) ?_
  refine sv (yLen rfl Try.underlying44) ?_
  refine sv (yMove rfl) ?_
  refine nil ?_
  show Code.wp _ _ _ _ _
  refine block ?_
  refine loop (fun f w zz => ∃ (k : Nat), f 0 = .slice a l.length cap ∧ f 1 = .func (.func g) #[] cl.toArray ∧ f 7 = .int .i64 (l.length : Int) ∧ f 8 = .int .i64 (k : Int) ∧ StX [] w0 w [] ∧ (k ≤ l.length) ∧ (idxF p l 0 = idxF p (l.drop k) k) ∧ zz = l.length - k) _ ⟨_, rfl, 0, rfl, rfl, rfl, rfl, hS, (Nat.zero_le _), (rfl), rfl⟩ ?_
  clear hS
  rintro f w _ ⟨k, h0, h1, h7, h8, hS, hk, hI, rfl⟩
  refine seq ?_
  refine region ?_
  refine sv (yLss h8 h7) ?_
  refine nil ?_
  show Code.wp _ _ _ _ _
  refine seq ?_
  refine cond rfl (fun c9 => ?_) (fun c9 => ?_)
  ·
    simp only [Bool.and_eq_true, Bool.or_eq_true, Bool.and_eq_false_iff, Bool.or_eq_false_iff, decide_eq_true_eq, decide_eq_false_iff_not, Bool.not_eq_true, Bool.not_eq_false, Bool.not_not, Bool.not_eq_eq_eq_not, Bool.not_true, Bool.not_false, Bool.false_eq_true, Bool.true_eq_false, ne_eq, Decidable.not_not, not_false_eq_true, not_true_eq_false] at c9
    refine skip ?_
    show Code.wp _ _ _ _ _
    refine seq ?_
    refine block ?_
    refine seq ?_
    refine region ?_
    refine sv (yMove h8) ?_
    refine sv (yAsg rfl) ?_
    refine nil ?_
    show Code.wp _ _ _ _ _
    refine seq ?_
    refine region ?_
    obtain ⟨x, hx, hd⟩ := drop_of (l := l) (k := k) (by omega)
    obtain ⟨b, o, cs, ha, hlen, hcs, hR⟩ := hel k (by omega)
    obtain rfl : x = l[k] := (List.getElem?_eq_some_iff.1 hx).2.symm
    obtain ⟨rfl, hi64⟩ := hR
    have hR : RInt w0 [.int .i64 l[k]] l[k] := ⟨rfl, hi64⟩
    refine sv (yMove h1) ?_
    refine sv (yMove h0) ?_
    refine sv (yMove rfl) ?_
    refine sv (yIxa rfl ha rfl Try.runUnderlying44 Try.sizeOf3 (by omega) (by omega)) ?_
    refine sv (yLd rfl Try.isAgg3 (hcs.ext hS.ext).one) ?_
    refine scallf rfl hcall (.cons rfl .nil) (hp _ _ _ (List.getElem_mem _) hS.ext hR) ?_
    rintro _ w ⟨rfl, hE⟩; replace hS := hS.step hE; clear hE
    refine nil ?_
    show Code.wp _ _ _ _ _
    refine cond rfl (fun c16 => ?_) (fun c16 => ?_)
    ·
      refine seq ?_
      refine region ?_
      refine sv (yMove rfl) ?_
      refine sv (yAsg rfl) ?_
      refine nil ?_
      show Code.wp _ _ _ _ _
      refine wp_ret (blockR (thenR (thenR (blockR (thenR ?_)))))
      exact retV (res1 rfl (by rw [hI, hd, idxF, if_pos c16]; rfl)) hS.ext
    ·
      refine skip ?_
      show Code.wp _ _ _ _ _
      refine region ?_
      refine sv (yAdd h8 rfl ⟨by omega, by omega⟩) ?_
      refine sv (yMove rfl) ?_
      refine nil ?_
      exact ⟨_, _, rfl, ⟨k + 1, h0, h1, h7, rfl, hS, (by omega), (by rw [hI, hd, idxF, if_neg (by simp [c16])]; rfl), rfl⟩, by omega⟩
  ·
    simp only [Bool.and_eq_true, Bool.or_eq_true, Bool.and_eq_false_iff, Bool.or_eq_false_iff, decide_eq_true_eq, decide_eq_false_iff_not, Bool.not_eq_true, Bool.not_eq_false, Bool.not_not, Bool.not_eq_eq_eq_not, Bool.not_true, Bool.not_false, Bool.false_eq_true, Bool.true_eq_false, ne_eq, Decidable.not_not, not_false_eq_true, not_true_eq_false] at c9
    refine exit ?_
    show Code.wp _ _ _ _ _
    refine seq ?_
    refine region ?_
    refine sv (yAsg rfl) ?_
    refine nil ?_
    show Code.wp _ _ _ _ _
    obtain rfl : k = l.length := by omega
    refine wp_ret ?_
    exact retV (res1 rfl (by rw [hI, List.drop_length]; rfl)) hS.ext
/-- slices.ContainsFunc   int,int  -/
theorem c_ContainsFuncInt {l : List Int} {p : Int → Bool} {v : Value} {g : Nat} {cl : List Value} {w0 : World} (hsl : Sl w0 1 RInt v l) (hcall : ∀ ys w, (callFunc g ys).run Try.prog w = .ok (.enter g ys) w) (hp : ∀ x cs w, x ∈ l → Ext w0 w → RInt w cs x → CV Try.prog g (.int .i64 x :: cl).toArray w (.bool (p x))) : CV Try.prog 62 #[v, .func (.func g) #[] cl.toArray] w0 (.bool (l.any p)) := by
  refine enter Try.func62 rfl Try.ntmps62 rfl ?_
  have hS := St.start w0
  refine seq ?_
  refine region ?_
  refine sv (yAsg rfl) ?_
  refine nil ?_
  show Code.wp _ _ _ _ _
  refine seq ?_
  refine region ?_
  refine sv (yMove rfl) ?_
  refine sv (yMove rfl) ?_
  refine scall Try.call97 (.cons rfl (.cons rfl .nil)) (c_IndexFuncInt hsl hcall hp) ?_
  rintro _ w ⟨rfl, hE⟩; replace hS := hS.step hE; clear hE
  refine sv (yGeq rfl rfl) ?_
  refine sv (yAsg rfl) ?_
  refine nil ?_
  show Code.wp _ _ _ _ _
  refine wp_ret ?_
  exact retV (res1 rfl (by rw [← idxF_any p l 0 (Int.le_refl 0)]; rfl)) hS.ext
/-- barrage/tide.first -/
theorem c_first {rs : List Rule} {b : Nat} {T : TypeId} {w0 : World} (hb : w0.heap[b]? = some (.cells (rs.flatMap rcells).toArray T (0, 0))) (hR : RulesOk Try.prog w0 rs) (hl : rs.length ≤ 1000) {e : Int} (he : firstE rs = e) : CV Try.prog 52 #[.slice (some ⟨b, 0, none⟩) rs.length rs.length] w0 (.int .i64 e) := by
  refine enter Try.func52 rfl Try.ntmps52 rfl ?_
  have hS := St.start w0
  refine seq ?_
  refine region ?_
  refine sv (yAsg rfl) ?_
  refine nil ?_
  show Code.wp _ _ _ _ _
  refine seq ?_
  refine seq ?_
  refine region ?_
  refine sv (yMove rfl) ?_
  refine sv (yLen rfl Try.underlying133) ?_
  refine sv (yMove rfl) ?_
  refine nil ?_
  show Code.wp _ _ _ _ _
  refine block ?_
  refine loop (fun f w zz => ∃ (k : Nat), f 5 = .slice (some ⟨b, 0, none⟩) rs.length rs.length ∧ f 6 = .int .i64 (rs.length : Int) ∧ f 7 = .int .i64 (k : Int) ∧ StX [] w0 w [] ∧ (k ≤ rs.length) ∧ (RulesOk Try.prog w0 (rs.drop k)) ∧ (e = firstE (rs.drop k)) ∧ zz = rs.length - k) _ ⟨_, rfl, 0, rfl, rfl, rfl, hS, (Nat.zero_le _), (hR), (he.symm), rfl⟩ ?_
  clear hS
  rintro f w _ ⟨k, h5, h6, h7, hS, hk, hR, hE, rfl⟩
  refine seq ?_
  refine region ?_
  refine sv (yLss h7 h6) ?_
  refine nil ?_
  show Code.wp _ _ _ _ _
  refine seq ?_
  refine cond rfl (fun c8 => ?_) (fun c8 => ?_)
  ·
    simp only [Bool.and_eq_true, Bool.or_eq_true, Bool.and_eq_false_iff, Bool.or_eq_false_iff, decide_eq_true_eq, decide_eq_false_iff_not, Bool.not_eq_true, Bool.not_eq_false, Bool.not_not, Bool.not_eq_eq_eq_not, Bool.not_true, Bool.not_false, Bool.false_eq_true, Bool.true_eq_false, ne_eq, Decidable.not_not, not_false_eq_true, not_true_eq_false] at c8
    refine skip ?_
    show Code.wp _ _ _ _ _
    refine seq ?_
    refine block ?_
    refine seq ?_
    refine region ?_
    obtain ⟨r, hr, hd⟩ := drop_of (l := rs) (k := k) (by omega)
    rw [hd] at hR
    obtain ⟨hcall, hv, hn⟩ := hR
    refine sv (yIx h5 h7 Try.runUnderlying133 Try.sizeOf96 (by omega) (by omega)) ?_
    refine sv (yLdA rfl Try.isAgg96 Try.sizeOf96 ((flat_cells rcells_len (blk_cells hb) hr).ext hS.ext) rfl) ?_
    refine salloc hS Try.zeroValue96 rfl ?_; clear hS; intro b4 w hS
    refine sst hS rfl rfl Try.sizeOf96 rfl rfl rfl rfl ?_; clear hS; intro w hS
    refine nil ?_
    show Code.wp _ _ _ _ _
    refine seq ?_
    refine region ?_
    refine sv (fa96_0 rfl) ?_
    refine sv (yLdB rfl Try.isAgg29 (hS.at _) rfl) ?_
    refine scallf rfl hcall .nil (hv _ hS.ext) ?_
    rintro _ w ⟨rfl, hE⟩; replace hS := hS.step hE; clear hE
    refine nil ?_
    show Code.wp _ _ _ _ _
    refine cond rfl (fun c13 => ?_) (fun c13 => ?_)
    ·
      refine seq ?_
      refine region ?_
      refine sv (fa96_1 rfl) ?_
      refine sv (yLdB rfl Try.isAgg25 (hS.at _) rfl) ?_
      refine sv (yAsg rfl) ?_
      refine nil ?_
      show Code.wp _ _ _ _ _
      refine wp_ret (blockR (thenR (thenR (blockR (thenR ?_)))))
      exact retV (res1 rfl (by rw [hE, hd, firstE, if_pos c13]; rfl)) hS.ext
    ·
      refine skip ?_
      show Code.wp _ _ _ _ _
      refine region ?_
      refine sv (yAdd h7 rfl ⟨by omega, by omega⟩) ?_
      refine sv (yMove rfl) ?_
      refine nil ?_
      exact ⟨_, _, rfl, ⟨k + 1, h5, h6, rfl, (hS.sub (List.nil_sublist _)), (by omega), (hn c13), (by rw [hE, hd, firstE, if_neg (by simp [c13])]), rfl⟩, by omega⟩
  ·
    simp only [Bool.and_eq_true, Bool.or_eq_true, Bool.and_eq_false_iff, Bool.or_eq_false_iff, decide_eq_true_eq, decide_eq_false_iff_not, Bool.not_eq_true, Bool.not_eq_false, Bool.not_not, Bool.not_eq_eq_eq_not, Bool.not_true, Bool.not_false, Bool.false_eq_true, Bool.true_eq_false, ne_eq, Decidable.not_not, not_false_eq_true, not_true_eq_false] at c8
    refine exit ?_
    show Code.wp _ _ _ _ _
    refine seq ?_
    refine region ?_
    refine sv (yAsg rfl) ?_
    refine nil ?_
    show Code.wp _ _ _ _ _
    obtain rfl : k = rs.length := by omega
    refine wp_ret ?_
    exact retV (res1 rfl (by rw [hE, List.drop_length]; rfl)) hS.ext
/-- barrage/tide.Check closure 1 -/
theorem c_Check1 {b : Nat} {T : TypeId} {m : Int} {cv : Value} {w0 : World} (hb : w0.heap[b]? = some (.cells [.int .i64 m, cv].toArray T (0, 0))) : CV Try.prog 53 #[.pointer (some ⟨b, 0, none⟩)] w0 (.bool (outB m (-20000) 20000)) := by
  refine enter Try.func53 rfl Try.ntmps53 rfl ?_
  have hS := St.start w0
  refine seq ?_
  refine region ?_
  refine sv (yAsg rfl) ?_
  refine nil ?_
  show Code.wp _ _ _ _ _
  refine seq ?_
  refine region ?_
  refine sv (fa24_0 rfl) ?_
  refine sv (yLdB rfl Try.isAgg3 (hS.ext.get hb) rfl) ?_
  refine scall Try.call54 (.cons rfl (.cons rfl (.cons rfl .nil))) c_out ?_
  rintro _ w ⟨rfl, hE⟩; replace hS := hS.step hE; clear hE
  refine sv (yAsg rfl) ?_
  refine nil ?_
  show Code.wp _ _ _ _ _
  refine wp_ret ?_
  exact retV (res1 rfl rfl) hS.ext
/-- barrage/tide.Check closure 2 -/
theorem c_Check2 {b : Nat} {T : TypeId} {m : Int} {a : Option Addr} {l cap : Nat} {w0 : World} (hb : w0.heap[b]? = some (.cells [.int .i64 m, .slice a l cap].toArray T (0, 0))) : CV Try.prog 55 #[.pointer (some ⟨b, 0, none⟩)] w0 (.bool (decide ((12 : Int) < l))) := by
  refine enter Try.func55 rfl Try.ntmps55 rfl ?_
  have hS := St.start w0
  refine seq ?_
  refine region ?_
  refine sv (yAsg rfl) ?_
  refine nil ?_
  show Code.wp _ _ _ _ _
  refine seq ?_
  refine region ?_
  refine sv (fa24_1 rfl) ?_
  refine sv (yLdB rfl Try.isAgg22 (hS.ext.get hb) rfl) ?_
  refine sv (yLen rfl Try.underlying22) ?_
  refine sv (yGtr rfl rfl) ?_
  refine sv (yAsg rfl) ?_
  refine nil ?_
  show Code.wp _ _ _ _ _
  refine wp_ret ?_
  exact retV (res1 rfl rfl) hS.ext
/-- barrage/tide.Check closure 3 -/
theorem c_Check3 {h : Int} {w0 : World} : CV Try.prog 56 #[.int .i64 h] w0 (.bool (outB h (-10000) 10000)) := by
  refine enter Try.func56 rfl Try.ntmps56 rfl ?_
  have hS := St.start w0
  refine seq ?_
  refine region ?_
  refine sv (yAsg rfl) ?_
  refine nil ?_
  show Code.wp _ _ _ _ _
  refine seq ?_
  refine region ?_
  refine sv (yMove rfl) ?_
  refine scall Try.call54 (.cons rfl (.cons rfl (.cons rfl .nil))) c_out ?_
  rintro _ w ⟨rfl, hE⟩; replace hS := hS.step hE; clear hE
  refine sv (yAsg rfl) ?_
  refine nil ?_
  show Code.wp _ _ _ _ _
  refine wp_ret ?_
  exact retV (res1 rfl rfl) hS.ext
/-- barrage/tide.Check closure 4 -/
theorem c_Check4 {b : Nat} {T : TypeId} {c : Const} {a : Option Addr} {cap : Nat} {w0 : World} (hb : w0.heap[b]? = some (.cells [.string c.name, .slice a c.heights.length cap, .int .i64 c.off, .int .i64 c.step, .int .i64 c.den, .int .i64 c.slack].toArray T (0, 0))) (hs : c.name.size ≤ 9223372036854775807) : CV Try.prog 57 #[.pointer (some ⟨b, 0, none⟩)] w0 (.bool (!isName c.name)) := by
  refine enter Try.func57 rfl Try.ntmps57 rfl ?_
  have hS := St.start w0
  refine seq ?_
  refine region ?_
  refine sv (yAsg rfl) ?_
  refine nil ?_
  show Code.wp _ _ _ _ _
  refine seq ?_
  refine region ?_
  refine sv (fa46_0 rfl) ?_
  refine sv (yLdB rfl Try.isAgg9 (hS.ext.get hb) rfl) ?_
  refine scall Try.call21 (.cons rfl .nil) (c_Name hs) ?_
  rintro _ w ⟨rfl, hE⟩; replace hS := hS.step hE; clear hE
  refine sv (yNot rfl) ?_
  refine sv (yAsg rfl) ?_
  refine nil ?_
  show Code.wp _ _ _ _ _
  refine wp_ret ?_
  exact retV (res1 rfl rfl) hS.ext
/-- barrage/tide.Check closure 5 -/
theorem c_Check5 {b b2 bm : Nat} {T T2 : TypeId} {c : Const} {a : Option Addr} {cap : Nat} {seen : List ByteArray} {w0 : World} (hb : w0.heap[b]? = some (.cells [.string c.name, .slice a c.heights.length cap, .int .i64 c.off, .int .i64 c.step, .int .i64 c.den, .int .i64 c.slack].toArray T (0, 0))) (h2 : w0.heap[b2]? = some (.cells [.map (some bm)].toArray T2 (0, 0))) (hm : ∃ o, w0.heap[bm]? = some o ∧ MapOk Value.string (seenM seen) o) : CV Try.prog 58 #[.pointer (some ⟨b2, 0, none⟩), .pointer (some ⟨b, 0, none⟩)] w0 (.bool (memB c.name seen)) := by
  refine enter Try.func58 rfl Try.ntmps58 rfl ?_
  have hS := St.start w0
  refine seq ?_
  refine region ?_
  refine sv (yAsg rfl) ?_
  refine nil ?_
  show Code.wp _ _ _ _ _
  refine seq ?_
  refine region ?_
  refine sv (yLdB rfl Try.isAgg97 (hS.ext.get h2) rfl) ?_
  refine sv (fa46_0 rfl) ?_
  refine sv (yLdB rfl Try.isAgg9 (hS.ext.get hb) rfl) ?_
  refine sv (yLook Value.string rfl rfl Try.runUnderlying97 (keyStr Try.underlying9) Try.zeroValue4 (by obtain ⟨o, h1, h2⟩ := hm; exact ⟨o, hS.ext.get h1, h2⟩) (getM_seen _ _)) ?_
  refine sv (yAsg rfl) ?_
  refine nil ?_
  show Code.wp _ _ _ _ _
  refine wp_ret ?_
  exact retV (res1 rfl rfl) hS.ext
/-- barrage/tide.Check closure 6 -/
theorem c_Check6 {b : Nat} {T : TypeId} {c : Const} {a : Option Addr} {cap : Nat} {w0 : World} (hb : w0.heap[b]? = some (.cells [.string c.name, .slice a c.heights.length cap, .int .i64 c.off, .int .i64 c.step, .int .i64 c.den, .int .i64 c.slack].toArray T (0, 0))) : CV Try.prog 59 #[.pointer (some ⟨b, 0, none⟩)] w0 (.bool (outB c.heights.length 2 48)) := by
  refine enter Try.func59 rfl Try.ntmps59 rfl ?_
  have hS := St.start w0
  refine seq ?_
  refine region ?_
  refine sv (yAsg rfl) ?_
  refine nil ?_
  show Code.wp _ _ _ _ _
  refine seq ?_
  refine region ?_
  refine sv (fa46_1 rfl) ?_
  refine sv (yLdB rfl Try.isAgg44 (hS.ext.get hb) rfl) ?_
  refine sv (yLen rfl Try.underlying44) ?_
  refine scall Try.call54 (.cons rfl (.cons rfl (.cons rfl .nil))) c_out ?_
  rintro _ w ⟨rfl, hE⟩; replace hS := hS.step hE; clear hE
  refine sv (yAsg rfl) ?_
  refine nil ?_
  show Code.wp _ _ _ _ _
  refine wp_ret ?_
  exact retV (res1 rfl rfl) hS.ext
/-- barrage/tide.Check closure 7 -/
theorem c_Check7 {b2 : Nat} {T2 : TypeId} {b : Nat} {T : TypeId} {c : Const} {a : Option Addr} {cap : Nat} {w0 : World} (hb : w0.heap[b]? = some (.cells [.string c.name, .slice a c.heights.length cap, .int .i64 c.off, .int .i64 c.step, .int .i64 c.den, .int .i64 c.slack].toArray T (0, 0))) (h2 : w0.heap[b2]? = some (.cells [.func (.func 56) #[] #[]].toArray T2 (0, 0))) (hl : (c.heights.length : Int) ≤ 48) (hsl : Sl w0 1 RInt (.slice a c.heights.length cap) c.heights) : CV Try.prog 60 #[.pointer (some ⟨b, 0, none⟩), .pointer (some ⟨b2, 0, none⟩)] w0 (.bool (numsB c)) := by
  refine enter Try.func60 rfl Try.ntmps60 rfl ?_
  have hS := St.start w0
  refine seq ?_
  refine region ?_
  refine sv (yAsg rfl) ?_
  refine nil ?_
  show Code.wp _ _ _ _ _
  refine seq ?_
  refine region_draw mixed (by kernel_rfl) hS ?_
  refine qv (fun w hS => (fa46_4 rfl)) ?_
  refine qv (fun w hS => (yLdB rfl Try.isAgg3 (hS.ext.get hb) rfl)) ?_
  refine qcall Try.call54 (.cons rfl (.cons rfl (.cons rfl .nil))) (fun w hS => c_out) ?_
  refine qv (fun w hS => (yMove rfl)) ?_
  refine qg rfl rfl rfl (fun g w hS => (fa46_3 rfl)) (fun v7 g7 => ?_)
  refine qg rfl rfl rfl (fun g w hS => (yLdB (g7.1 g) Try.isAgg3 (hS.ext.get hb) rfl)) (fun v8 g8 => ?_)
  refine qgc rfl rfl rfl Try.call54 (fun g => (.cons (g8.1 g) (.cons rfl (.cons rfl .nil)))) (fun g w hS => c_out) (fun v9 g9 => ?_)
  refine qv (fun w hS => (yOr rfl rfl (fun hB => (g9.1 hB)))) ?_
  refine qv (fun w hS => (yMove rfl)) ?_
  refine qg rfl rfl rfl (fun g w hS => (fa46_5 rfl)) (fun v12 g12 => ?_)
  refine qg rfl rfl rfl (fun g w hS => (yLdB (g12.1 g) Try.isAgg3 (hS.ext.get hb) rfl)) (fun v13 g13 => ?_)
  refine qgc rfl rfl rfl Try.call54 (fun g => (.cons (g13.1 g) (.cons rfl (.cons rfl .nil)))) (fun g w hS => c_out) (fun v14 g14 => ?_)
  refine qv (fun w hS => (yOr rfl rfl (fun hB => (g14.1 hB)))) ?_
  refine qv (fun w hS => (yMove rfl)) ?_
  refine qg rfl rfl rfl (fun g w hS => (fa46_2 rfl)) (fun v17 g17 => ?_)
  refine qg rfl rfl rfl (fun g w hS => (yLdB (g17.1 g) Try.isAgg3 (hS.ext.get hb) rfl)) (fun v18 g18 => ?_)
  refine qg rfl rfl rfl (fun g w hS => (yLdBA rfl Try.isAgg46 Try.sizeOf46 (hS.ext.get hb) rfl rfl)) (fun v19 g19 => ?_)
  refine qgc rfl rfl rfl Try.call61 (fun g => (.cons (g19.1 g) .nil)) (fun g w hS => (c_cycle (by have := (cyc_bd (d := c.den) (by simp only [Bool.or_eq_false_iff, outB_false] at g; omega) (by simp only [Bool.or_eq_false_iff, outB_false] at g; omega) hl); exact ⟨by omega, by omega⟩))) (fun v20 g20 => ?_)
  refine qg rfl rfl rfl (fun g w hS => (ySub (g20.1 g) rfl (by have := (cyc_bd (d := c.den) (by simp only [Bool.or_eq_false_iff, outB_false] at g; omega) (by simp only [Bool.or_eq_false_iff, outB_false] at g; omega) hl); exact ⟨by omega, by omega⟩))) (fun v21 g21 => ?_)
  refine qgc rfl rfl rfl Try.call54 (fun g => (.cons (g18.1 g) (.cons rfl (.cons (g21.1 g) .nil)))) (fun g w hS => c_out) (fun v22 g22 => ?_)
  refine qv (fun w hS => (yOr rfl rfl (fun hB => (g22.1 hB)))) ?_
  refine qv (fun w hS => (yMove rfl)) ?_
  refine qg rfl rfl rfl (fun g w hS => (fa46_1 rfl)) (fun v25 g25 => ?_)
  refine qg rfl rfl rfl (fun g w hS => (yLdB (g25.1 g) Try.isAgg44 (hS.ext.get hb) rfl)) (fun v26 g26 => ?_)
  refine qg rfl rfl rfl (fun g w hS => (yLdB rfl Try.isAgg98 (hS.ext.get h2) rfl)) (fun v27 g27 => ?_)
  refine qgc rfl rfl rfl Try.call62 (fun g => (.cons (g26.1 g) (.cons (g27.1 g) .nil))) (fun g w hS => (c_ContainsFuncInt (cl := []) (hsl.ext RInt.stays hS.ext) Try.call56 (fun x cs w _ _ _ => c_Check3))) (fun v28 g28 => ?_)
  refine qv (fun w hS => (yOr rfl rfl (fun hB => (g28.1 hB)))) ?_
  refine qv (fun w hS => (yAsg rfl)) ?_
  clear hS; refine qnil (fun w hS => ?_)
  show Code.wp _ _ _ _ _
  refine wp_ret ?_
  exact retV (res1 rfl rfl) hS.ext
set_option maxHeartbeats 1000000 in
/-- barrage/tide.Check -/
theorem c_Check {t : Table} {cs : List Value} {w0 : World} (ht : RTable w0 cs t) : CV Try.prog 19 #[.agg cs.toArray] w0 (.tuple #[.int .i64 (checkT t).1, .int .i64 (checkT t).2]) := by
  obtain ⟨cv, rfl, hmean, a, cap, rfl, hcap, hmx, hel⟩ := ht
  refine enter Try.func19 rfl Try.ntmps19 rfl ?_
  have hS := St.start w0
  refine seq ?_
  refine region ?_
  refine sbox hS rfl rfl ?_; clear hS; intro b1 w hS
  refine sv (yAsg rfl) ?_
  refine sv (yAsg rfl) ?_
  refine nil ?_
  show Code.wp _ _ _ _ _
  refine seq ?_
  refine region ?_
  refine sv (yFn (.cons rfl .nil)) ?_
  refine sv (yBuild Try.zeroValue96 rfl pl96 (.cons rfl rfl (.cons rfl rfl .nil)) rfl) ?_
  refine sv (yFn (.cons rfl .nil)) ?_
  refine sv (yBuild Try.zeroValue96 rfl pl96 (.cons rfl rfl (.cons rfl rfl .nil)) rfl) ?_
  refine sbslice hS Try.underlying133 Try.sizeOf96 rfl Try.zeroValue96 rfl (.cons rfl rfl (.cons rfl rfl .nil)) rfl ?_; clear hS; intro b13 w hS
  refine scall Try.call52 (.cons rfl .nil) (c_first (rs := [⟨53, [.pointer (some ⟨b1, 0, none⟩)], 7, outB t.mean (-20000) 20000⟩, ⟨55, [.pointer (some ⟨b1, 0, none⟩)], 3, decide ((12 : Int) < t.consts.length)⟩]) (hS.at _) ⟨Try.call53, fun w e => c_Check1 (e.get (hS.at _)), fun _ => ⟨Try.call55, fun w e => c_Check2 (e.get (hS.at _)), fun _ => trivial⟩⟩ (Nat.le_of_ble_eq_true rfl) (tErr_eq t _ _ _ _)) ?_
  rintro _ w ⟨rfl, hE⟩; replace hS := hS.step hE; clear hE
  refine sv (yAsg rfl) ?_
  refine nil ?_
  show Code.wp _ _ _ _ _
  refine seq ?_
  refine seq ?_
  refine region ?_
  refine sv (yMove rfl) ?_
  refine sv (yNeq rfl rfl) ?_
  refine nil ?_
  show Code.wp _ _ _ _ _
  refine cond rfl (fun c16 => ?_) (fun c16 => ?_)
  ·
    simp only [Bool.and_eq_true, Bool.or_eq_true, Bool.and_eq_false_iff, Bool.or_eq_false_iff, decide_eq_true_eq, decide_eq_false_iff_not, Bool.not_eq_true, Bool.not_eq_false, Bool.not_not, Bool.not_eq_eq_eq_not, Bool.not_true, Bool.not_false, Bool.false_eq_true, Bool.true_eq_false, ne_eq, Decidable.not_not, not_false_eq_true, not_true_eq_false] at c16
    refine seq ?_
    refine region ?_
    refine sv (yMove rfl) ?_
    refine sv (yAsg rfl) ?_
    refine sv (yAsg rfl) ?_
    refine nil ?_
    show Code.wp _ _ _ _ _
    refine wp_ret (thenR ?_)
    exact retV (res2 rfl (fstI (checkT_bad c16)) (sndI (checkT_bad c16))) hS.ext
  ·
    simp only [Bool.and_eq_true, Bool.or_eq_true, Bool.and_eq_false_iff, Bool.or_eq_false_iff, decide_eq_true_eq, decide_eq_false_iff_not, Bool.not_eq_true, Bool.not_eq_false, Bool.not_not, Bool.not_eq_eq_eq_not, Bool.not_true, Bool.not_false, Bool.false_eq_true, Bool.true_eq_false, ne_eq, Decidable.not_not, not_false_eq_true, not_true_eq_false] at c16
    obtain ⟨hgood, hlen⟩ := checkT_good c16
    refine skip ?_
    show Code.wp _ _ _ _ _
    refine seq ?_
    refine region ?_
    refine smkmap Value.string hS ?_; clear hS; intro b18 w hS
    refine salloc hS Try.zeroValue97 rfl ?_; clear hS; intro b4 w hS
    refine sst hS rfl rfl Try.sizeOf97 rfl rfl rfl rfl ?_; clear hS; intro w hS
    refine nil ?_
    show Code.wp _ _ _ _ _
    refine seq ?_
    refine seq ?_
    refine region ?_
    refine sv (fa24_1 rfl) ?_
    refine sv (yLdB rfl Try.isAgg22 (hS.at _) rfl) ?_
    refine sv (yLen rfl Try.underlying22) ?_
    refine sv (yMove rfl) ?_
    refine nil ?_
    show Code.wp _ _ _ _ _
    refine block ?_
    refine loop (fun f w zz => ∃ (k : Nat), f 4 = .pointer (some ⟨b4, 0, none⟩) ∧ f 20 = .slice a t.consts.length cap ∧ f 21 = .int .i64 (t.consts.length : Int) ∧ f 22 = .int .i64 (k : Int) ∧ StX [] w0 w [blk b4 [.map (some b18)] 97, mapI b18 Value.string (seenM ((t.consts.take k).map (·.name)))] ∧ (k ≤ t.consts.length) ∧ (checkT t = checkL (t.consts.drop k) ((t.consts.take k).map (·.name)) k) ∧ zz = t.consts.length - k) _ ⟨_, rfl, 0, rfl, rfl, rfl, rfl, (hS.sub (.cons_cons _ (.cons_cons _ (List.nil_sublist _)))), (Nat.zero_le _), (hgood), rfl⟩ ?_
    clear hS
    rintro f w _ ⟨k, h4, h20, h21, h22, hS, hk, hI, rfl⟩
    refine seq ?_
    refine region ?_
    refine sv (yLss h22 h21) ?_
    refine nil ?_
    show Code.wp _ _ _ _ _
    refine seq ?_
    refine cond rfl (fun c23 => ?_) (fun c23 => ?_)
    ·
      simp only [Bool.and_eq_true, Bool.or_eq_true, Bool.and_eq_false_iff, Bool.or_eq_false_iff, decide_eq_true_eq, decide_eq_false_iff_not, Bool.not_eq_true, Bool.not_eq_false, Bool.not_not, Bool.not_eq_eq_eq_not, Bool.not_true, Bool.not_false, Bool.false_eq_true, Bool.true_eq_false, ne_eq, Decidable.not_not, not_false_eq_true, not_true_eq_false] at c23
      refine skip ?_
      show Code.wp _ _ _ _ _
      refine seq ?_
      refine block ?_
      refine seq ?_
      refine region ?_
      obtain ⟨c, hx, hd⟩ := drop_of (l := t.consts) (k := k) (by omega)
      obtain ⟨b, o, cs, ha, hlen, hcs, hR⟩ := hel k (by omega)
      obtain rfl : c = t.consts[k] := (List.getElem?_eq_some_iff.1 hx).2.symm
      generalize t.consts[k] = c at hx hd hR
      obtain ⟨hv, rfl, hn1, hsl1, _, _, _, _⟩ := hR
      obtain ⟨a1, cap1, rfl, hq1, hq2, hq3⟩ := id hsl1
      refine sv (yMove h22) ?_
      refine sv (yIxa h20 ha h22 Try.runUnderlying22 Try.sizeOf46 (by omega) (by omega)) ?_
      refine sv (yLdA rfl Try.isAgg46 Try.sizeOf46 (hcs.ext hS.ext) rfl) ?_
      refine salloc hS Try.zeroValue46 rfl ?_; clear hS; intro b6 w hS
      refine sv (yAsg rfl) ?_
      refine sst hS rfl rfl Try.sizeOf46 rfl rfl rfl rfl ?_; clear hS; intro w hS
      refine nil ?_
      show Code.wp _ _ _ _ _
      refine seq ?_
      refine region ?_
      refine salloc hS Try.zeroValue98 rfl ?_; clear hS; intro b7 w hS
      refine sst hS rfl rfl Try.sizeOf98 rfl rfl rfl rfl ?_; clear hS; intro w hS
      refine nil ?_
      show Code.wp _ _ _ _ _
      refine seq ?_
      refine region ?_
      refine sv (yFn (.cons rfl .nil)) ?_
      refine sv (yBuild Try.zeroValue96 rfl pl96 (.cons rfl rfl (.cons rfl rfl .nil)) rfl) ?_
      refine sv (yFn (.cons h4 (.cons rfl .nil))) ?_
      refine sv (yBuild Try.zeroValue96 rfl pl96 (.cons rfl rfl (.cons rfl rfl .nil)) rfl) ?_
      refine sv (yFn (.cons rfl .nil)) ?_
      refine sv (yBuild Try.zeroValue96 rfl pl96 (.cons rfl rfl (.cons rfl rfl .nil)) rfl) ?_
      refine sv (yFn (.cons rfl (.cons rfl .nil))) ?_
      refine sv (yBuild Try.zeroValue96 rfl pl96 (.cons rfl rfl (.cons rfl rfl .nil)) rfl) ?_
      refine sbslice hS Try.underlying133 Try.sizeOf96 rfl Try.zeroValue96 rfl (.cons rfl rfl (.cons rfl rfl (.cons rfl rfl (.cons rfl rfl .nil)))) rfl ?_; clear hS; intro b35 w hS
      refine scall Try.call52 (.cons rfl .nil) (c_first (rs := [⟨57, [.pointer (some ⟨b6, 0, none⟩)], 6, !isName c.name⟩, ⟨58, [.pointer (some ⟨b4, 0, none⟩), .pointer (some ⟨b6, 0, none⟩)], 5, memB c.name ((t.consts.take k).map (·.name))⟩, ⟨59, [.pointer (some ⟨b6, 0, none⟩)], 3, outB c.heights.length 2 48⟩, ⟨60, [.pointer (some ⟨b6, 0, none⟩), .pointer (some ⟨b7, 0, none⟩)], 7, numsB c⟩]) (hS.at _) ⟨Try.call57, fun w e => c_Check4 (e.get (hS.at b6)) hn1, fun _ => ⟨Try.call58, fun w e => c_Check5 (e.get (hS.at b6)) (e.get (hS.at b4)) (by obtain ⟨o, h1, h2⟩ := hS.is b18; exact ⟨o, e.get h1, h2⟩), fun _ => ⟨Try.call59, fun w e => c_Check6 (e.get (hS.at b6)), fun h6 => ⟨Try.call60, fun w e => c_Check7 (e.get (hS.at b6)) (e.get (hS.at b7)) (outB_false.1 h6).2 (hsl1.ext RInt.stays (hS.ext.trans e)), fun _ => trivial⟩⟩⟩⟩ (Nat.le_of_ble_eq_true rfl) (cErr_eq _ c _ _ _ _ _ _ _ _)) ?_
      rintro _ w ⟨rfl, hE⟩; replace hS := hS.step hE; clear hE
      refine sv (yAsg rfl) ?_
      refine nil ?_
      show Code.wp _ _ _ _ _
      refine seq ?_
      refine seq ?_
      refine region ?_
      refine sv (yMove rfl) ?_
      refine sv (yNeq rfl rfl) ?_
      refine nil ?_
      show Code.wp _ _ _ _ _
      refine cond rfl (fun c38 => ?_) (fun c38 => ?_)
      ·
        simp only [Bool.and_eq_true, Bool.or_eq_true, Bool.and_eq_false_iff, Bool.or_eq_false_iff, decide_eq_true_eq, decide_eq_false_iff_not, Bool.not_eq_true, Bool.not_eq_false, Bool.not_not, Bool.not_eq_eq_eq_not, Bool.not_true, Bool.not_false, Bool.false_eq_true, Bool.true_eq_false, ne_eq, Decidable.not_not, not_false_eq_true, not_true_eq_false] at c38
        refine seq ?_
        refine region ?_
        refine sv (yMove rfl) ?_
        refine sv (yMove rfl) ?_
        refine sv (yAsg rfl) ?_
        refine sv (yAsg rfl) ?_
        refine nil ?_
        show Code.wp _ _ _ _ _
        have hfin : checkT t = ((k : Int), cErr ((t.consts.take k).map (·.name)) c) := by rw [hI, hd, checkL, if_pos c38]
        refine wp_ret (thenR (blockR (thenR (thenR (blockR (thenR ?_))))))
        exact retV (res2 rfl (fstI hfin) (sndI hfin)) hS.ext
      ·
        simp only [Bool.and_eq_true, Bool.or_eq_true, Bool.and_eq_false_iff, Bool.or_eq_false_iff, decide_eq_true_eq, decide_eq_false_iff_not, Bool.not_eq_true, Bool.not_eq_false, Bool.not_not, Bool.not_eq_eq_eq_not, Bool.not_true, Bool.not_false, Bool.false_eq_true, Bool.true_eq_false, ne_eq, Decidable.not_not, not_false_eq_true, not_true_eq_false] at c38
        refine skip ?_
        show Code.wp _ _ _ _ _
        refine region ?_
        refine sv (yLdB h4 Try.isAgg97 (hS.at _) rfl) ?_
        refine sv (fa46_0 rfl) ?_
        refine sv (yLdB rfl Try.isAgg9 (hS.at _) rfl) ?_
        refine smapset Value.string hS rfl rfl rfl Try.runUnderlying97 (keyStr Try.underlying9) ?_; clear hS; intro w hS
        refine nil ?_
        show Code.wp _ _ _ _ _
        refine region ?_
        refine sv (yAdd h22 rfl ⟨by omega, by omega⟩) ?_
        refine sv (yMove rfl) ?_
        refine nil ?_
        exact ⟨_, _, rfl, ⟨k + 1, h4, h20, h21, rfl, (by rw [take_names hx, ← setM_seen _ _ (cErr_seen c38)]; exact hS.sub (.cons _ (.cons _ (.cons _ (List.Sublist.refl _))))), (by omega), (by rw [hI, hd, checkL, if_neg (fun h => h c38), take_names hx]; rfl), rfl⟩, by omega⟩
    ·
      simp only [Bool.and_eq_true, Bool.or_eq_true, Bool.and_eq_false_iff, Bool.or_eq_false_iff, decide_eq_true_eq, decide_eq_false_iff_not, Bool.not_eq_true, Bool.not_eq_false, Bool.not_not, Bool.not_eq_eq_eq_not, Bool.not_true, Bool.not_false, Bool.false_eq_true, Bool.true_eq_false, ne_eq, Decidable.not_not, not_false_eq_true, not_true_eq_false] at c23
      refine exit ?_
      show Code.wp _ _ _ _ _
      refine seq ?_
      refine region ?_
      refine sv (yAsg rfl) ?_
      refine sv (yAsg rfl) ?_
      refine nil ?_
      show Code.wp _ _ _ _ _
      obtain rfl : k = t.consts.length := by omega
      have hfin : checkT t = (0, 0) := by rw [hI, List.drop_length]; rfl
      refine wp_ret ?_
      exact retV (res2 rfl (fstI hfin) (sndI hfin)) hS.ext
end Go.Proofs.Ytpgmehignepidaa
/- part Wk2 -/
namespace Go.Proofs.Ytpgmehignepidaa
open Go Bx
/-- barrage/barrageref01.tick -/
theorem c_tick {a : Int} {w0 : World} : CV Try.prog 67 #[.int .i64 a] w0 (.bool (inB a 0 200000)) := by
  refine enter Try.func67 rfl Try.ntmps67 rfl ?_
  have hS := St.start w0
  refine seq ?_
  refine region ?_
  refine sv (yAsg rfl) ?_
  refine nil ?_
  show Code.wp _ _ _ _ _
  refine seq ?_
  refine region ?_
  refine sv (yMove rfl) ?_
  refine scall Try.call63 (.cons rfl (.cons rfl (.cons rfl .nil))) c_in ?_
  rintro _ w ⟨rfl, hE⟩; replace hS := hS.step hE; clear hE
  refine sv (yAsg rfl) ?_
  refine nil ?_
  show Code.wp _ _ _ _ _
  refine wp_ret ?_
  exact retV (res1 rfl rfl) hS.ext
/-- barrage/barrageref01.Name -/
theorem c_rName {s : ByteArray} {w0 : World} (hs : s.size ≤ 9223372036854775807) : CV Try.prog 22 #[.string s] w0 (.bool (isName s)) := by
  refine enter Try.func22 rfl Try.ntmps22 rfl ?_
  have hS := St.start w0
  refine seq ?_
  refine region ?_
  refine sv (yAsg rfl) ?_
  refine nil ?_
  show Code.wp _ _ _ _ _
  refine seq ?_
  refine seq ?_
  refine region ?_
  refine sv (yMove rfl) ?_
  refine sv (yLenS rfl Try.underlying9) ?_
  refine scall Try.call63 (.cons rfl (.cons rfl (.cons rfl .nil))) c_in ?_
  rintro _ w ⟨rfl, hE⟩; replace hS := hS.step hE; clear hE
  refine sv (yNot rfl) ?_
  refine nil ?_
  show Code.wp _ _ _ _ _
  refine cond rfl (fun c9 => ?_) (fun c9 => ?_)
  ·
    simp only [Bool.and_eq_true, Bool.or_eq_true, Bool.and_eq_false_iff, Bool.or_eq_false_iff, decide_eq_true_eq, decide_eq_false_iff_not, Bool.not_eq_true, Bool.not_eq_false, Bool.not_not, Bool.not_eq_eq_eq_not, Bool.not_true, Bool.not_false, Bool.false_eq_true, Bool.true_eq_false, ne_eq, Decidable.not_not, not_false_eq_true, not_true_eq_false, inB] at c9
    refine seq ?_
    refine region ?_
    refine sv (yAsg rfl) ?_
    refine nil ?_
    show Code.wp _ _ _ _ _
    refine wp_ret (thenR ?_)
    exact retV (res1 rfl (eqB (isName_size s (by omega)))) hS.ext
  ·
    simp only [Bool.and_eq_true, Bool.or_eq_true, Bool.and_eq_false_iff, Bool.or_eq_false_iff, decide_eq_true_eq, decide_eq_false_iff_not, Bool.not_eq_true, Bool.not_eq_false, Bool.not_not, Bool.not_eq_eq_eq_not, Bool.not_true, Bool.not_false, Bool.false_eq_true, Bool.true_eq_false, ne_eq, Decidable.not_not, not_false_eq_true, not_true_eq_false, inB] at c9
    refine skip ?_
    show Code.wp _ _ _ _ _
    refine seq ?_
    refine seq ?_
    refine region ?_
    refine sv (yAsg rfl) ?_
    refine nil ?_
    show Code.wp _ _ _ _ _
    refine block ?_
    refine loop (fun f w zz => ∃ (k : Nat), f 0 = .string s ∧ f 3 = .int .i64 (k : Int) ∧ StX [] w0 w [] ∧ (k ≤ s.size) ∧ (∀ i, i < k → okAt s i) ∧ zz = s.size - k) _ ⟨_, rfl, 0, rfl, rfl, hS, (Nat.zero_le _), (fun i hi => absurd hi (Nat.not_lt_zero i)), rfl⟩ ?_
    clear hS
    rintro f w _ ⟨k, h0, h3, hS, hk, hP, rfl⟩
    refine seq ?_
    refine seq ?_
    refine region ?_
    refine sv (yMove h3) ?_
    refine sv (yMove h0) ?_
    refine sv (yLenS rfl Try.underlying9) ?_
    refine sv (yLss rfl rfl) ?_
    refine nil ?_
    show Code.wp _ _ _ _ _
    refine cond rfl (fun c13 => ?_) (fun c13 => ?_)
    ·
      simp only [Bool.and_eq_true, Bool.or_eq_true, Bool.and_eq_false_iff, Bool.or_eq_false_iff, decide_eq_true_eq, decide_eq_false_iff_not, Bool.not_eq_true, Bool.not_eq_false, Bool.not_not, Bool.not_eq_eq_eq_not, Bool.not_true, Bool.not_false, Bool.false_eq_true, Bool.true_eq_false, ne_eq, Decidable.not_not, not_false_eq_true, not_true_eq_false] at c13
      refine skip ?_
      show Code.wp _ _ _ _ _
      refine seq ?_
      refine block ?_
      refine seq ?_
      refine region ?_
      refine sv (yMove h0) ?_
      refine sv (yMove h3) ?_
      refine sv (yIxS rfl rfl Try.underlying9 (getElem?_pos s k (by omega))) ?_
      refine sv (yAsg rfl) ?_
      refine nil ?_
      show Code.wp _ _ _ _ _
      refine seq ?_
      refine region ?_
      refine sv (yMove rfl) ?_
      refine sv (yGeq rfl rfl) ?_
      refine sv (yMove rfl) ?_
      refine sg rfl rfl rfl (fun g => (yMove rfl)) (fun v22 g22 => ?_)
      refine sg rfl rfl rfl (fun g => (yLeq (g22.1 g) rfl)) (fun v23 g23 => ?_)
      refine sv (yAnd rfl (fun hB => (g23.1 hB)) rfl) ?_
      refine sv (yAsg rfl) ?_
      refine nil ?_
      show Code.wp _ _ _ _ _
      refine seq ?_
      refine region ?_
      refine sv (yMove rfl) ?_
      refine sv (yNot rfl) ?_
      refine sv (yMove rfl) ?_
      refine sg rfl rfl rfl (fun g => (yMove h3)) (fun v28 g28 => ?_)
      refine sg rfl rfl rfl (fun g => (yEql (g28.1 g) rfl)) (fun v29 g29 => ?_)
      refine sg rfl rfl rfl (fun g => (yMove (g29.1 g))) (fun v30 g30 => ?_)
      refine sgg rfl rfl g30 (fun g => (yMove rfl)) (fun v31 g31 => ?_)
      refine sgg rfl rfl g30 (fun g => (yNeq (g31.1 g) rfl)) (fun v32 g32 => ?_)
      refine sgg rfl rfl g30 (fun g => (yMove (g32.1 g))) (fun v33 g33 => ?_)
      refine sgg rfl rfl g33 (fun g => (yMove rfl)) (fun v34 g34 => ?_)
      refine sgg rfl rfl g33 (fun g => (yLss (g34.1 g) rfl)) (fun v35 g35 => ?_)
      refine sgg rfl rfl g33 (fun g => (yMove (g35.1 g))) (fun v36 g36 => ?_)
      refine sgg rfl rfl g36 (fun g => (yMove rfl)) (fun v37 g37 => ?_)
      refine sgg rfl rfl g36 (fun g => (yGtr (g37.1 g) rfl)) (fun v38 g38 => ?_)
      refine sgg rfl rfl g33 (fun g => (yOr (g36.1 g) rfl (fun hB => (g38.1 ⟨g, hB⟩)))) (fun v39 g39 => ?_)
      refine sgg rfl rfl g30 (fun g => (yAnd (g33.1 g) (fun hB => (g39.1 ⟨g, hB⟩)) rfl)) (fun v40 g40 => ?_)
      refine sg rfl rfl rfl (fun g => (yOr (g30.1 g) rfl (fun hB => (g40.1 ⟨g, hB⟩)))) (fun v41 g41 => ?_)
      refine sv (yAnd rfl (fun hB => (g41.1 hB)) rfl) ?_
      refine nil ?_
      show Code.wp _ _ _ _ _
      refine cond rfl (fun c42 => ?_) (fun c42 => ?_)
      ·
        simp only [Bool.and_eq_true, Bool.or_eq_true, Bool.and_eq_false_iff, Bool.or_eq_false_iff, decide_eq_true_eq, decide_eq_false_iff_not, Bool.not_eq_true, Bool.not_eq_false, Bool.not_not, Bool.not_eq_eq_eq_not, Bool.not_true, Bool.not_false, Bool.false_eq_true, Bool.true_eq_false, ne_eq, Decidable.not_not, not_false_eq_true, not_true_eq_false] at c42
        refine seq ?_
        refine region ?_
        refine sv (yAsg rfl) ?_
        refine nil ?_
        show Code.wp _ _ _ _ _
        refine wp_ret (blockR (thenR (thenR (blockR (thenR ?_)))))
        exact retV (res1 rfl (eqB (isName_bad s k (by omega) (fun h => by have := (okAt_of s k (by omega)).1 h; omega)))) hS.ext
      ·
        simp only [Bool.and_eq_true, Bool.or_eq_true, Bool.and_eq_false_iff, Bool.or_eq_false_iff, decide_eq_true_eq, decide_eq_false_iff_not, Bool.not_eq_true, Bool.not_eq_false, Bool.not_not, Bool.not_eq_eq_eq_not, Bool.not_true, Bool.not_false, Bool.false_eq_true, Bool.true_eq_false, ne_eq, Decidable.not_not, not_false_eq_true, not_true_eq_false] at c42
        refine skip ?_
        show Code.wp _ _ _ _ _
        refine region ?_
        refine sv (yMove h3) ?_
        refine sv (yAdd rfl rfl ⟨by omega, by omega⟩) ?_
        refine sv (yAsg rfl) ?_
        refine nil ?_
        exact ⟨_, _, rfl, ⟨k + 1, h0, rfl, hS, (by omega), (snoc hP ((okAt_of s k (by omega)).2 (by omega))), rfl⟩, by omega⟩
    ·
      simp only [Bool.and_eq_true, Bool.or_eq_true, Bool.and_eq_false_iff, Bool.or_eq_false_iff, decide_eq_true_eq, decide_eq_false_iff_not, Bool.not_eq_true, Bool.not_eq_false, Bool.not_not, Bool.not_eq_eq_eq_not, Bool.not_true, Bool.not_false, Bool.false_eq_true, Bool.true_eq_false, ne_eq, Decidable.not_not, not_false_eq_true, not_true_eq_false] at c13
      refine exit ?_
      show Code.wp _ _ _ _ _
      refine seq ?_
      refine region ?_
      refine sv (yAsg rfl) ?_
      refine nil ?_
      show Code.wp _ _ _ _ _
      refine wp_ret ?_
      exact retV (res1 rfl (eqB (isName_good s (by omega) (by omega) (fun i hi => hP i (by omega))))) hS.ext
set_option maxHeartbeats 1000000 in
/-- barrage/barrageref01.constituent -/
theorem c_rConst {t : Table} {cs0 : List Value} {i : Nat} {c : Const} {w0 : World} (ht : RTable w0 cs0 t) (hxi : t.consts[i]? = some c) : CV Try.prog 64 #[.agg cs0.toArray, .int .i64 (i : Int)] w0 (.int .i64 (cErr ((t.consts.take i).map (·.name)) c)) := by
  obtain ⟨cv, rfl, hmean, a, cap, rfl, hcap, hmx, hel⟩ := ht
  obtain ⟨hi, hci⟩ := List.getElem?_eq_some_iff.1 hxi
  obtain ⟨b, o, cs, ha, hlen, hcs, hR⟩ := hel i hi
  rw [hci] at hR
  obtain ⟨hv, rfl, hn1, hsl1, _, _, _, _⟩ := hR
  obtain ⟨a1, cap1, rfl, hq1, hq2, hq3⟩ := id hsl1
  refine enter Try.func64 rfl Try.ntmps64 rfl ?_
  have hS := St.start w0
  refine seq ?_
  refine region ?_
  refine sbox hS rfl rfl ?_; clear hS; intro b2 w hS
  refine sv (yAsg rfl) ?_
  refine nil ?_
  show Code.wp _ _ _ _ _
  refine seq ?_
  refine region ?_
  refine sv (fa24_1 rfl) ?_
  refine sv (yLdB rfl Try.isAgg22 (hS.at _) rfl) ?_
  refine sv (yMove rfl) ?_
  refine sv (yIxa rfl ha rfl Try.runUnderlying22 Try.sizeOf46 (by omega) (by omega)) ?_
  refine sv (yLdA rfl Try.isAgg46 Try.sizeOf46 (hcs.ext hS.ext) rfl) ?_
  refine salloc hS Try.zeroValue46 rfl ?_; clear hS; intro b5 w hS
  refine sst hS rfl rfl Try.sizeOf46 rfl rfl rfl rfl ?_; clear hS; intro w hS
  refine nil ?_
  show Code.wp _ _ _ _ _
  refine seq ?_
  refine seq ?_
  refine region ?_
  refine sv (fa46_0 rfl) ?_
  refine sv (yLdB rfl Try.isAgg9 (hS.at _) rfl) ?_
  refine scall Try.call22 (.cons rfl .nil) (c_rName hn1) ?_
  rintro _ w ⟨rfl, hE⟩; replace hS := hS.step hE; clear hE
  refine sv (yNot rfl) ?_
  refine nil ?_
  show Code.wp _ _ _ _ _
  refine cond rfl (fun c17 => ?_) (fun c17 => ?_)
  ·
    simp only [Bool.and_eq_true, Bool.or_eq_true, Bool.and_eq_false_iff, Bool.or_eq_false_iff, decide_eq_true_eq, decide_eq_false_iff_not, Bool.not_eq_true, Bool.not_eq_false, Bool.not_not, Bool.not_eq_eq_eq_not, Bool.not_true, Bool.not_false, Bool.false_eq_true, Bool.true_eq_false, ne_eq, Decidable.not_not, not_false_eq_true, not_true_eq_false] at c17
    refine seq ?_
    refine region ?_
    refine sv (yAsg rfl) ?_
    refine nil ?_
    show Code.wp _ _ _ _ _
    refine wp_ret (thenR ?_)
    exact retV (res1 rfl (eqI (cErr6 c17))) hS.ext
  ·
    simp only [Bool.and_eq_true, Bool.or_eq_true, Bool.and_eq_false_iff, Bool.or_eq_false_iff, decide_eq_true_eq, decide_eq_false_iff_not, Bool.not_eq_true, Bool.not_eq_false, Bool.not_not, Bool.not_eq_eq_eq_not, Bool.not_true, Bool.not_false, Bool.false_eq_true, Bool.true_eq_false, ne_eq, Decidable.not_not, not_false_eq_true, not_true_eq_false] at c17
    refine skip ?_
    show Code.wp _ _ _ _ _
    refine seq ?_
    refine seq ?_
    refine region ?_
    refine sv (yAsg rfl) ?_
    refine nil ?_
    show Code.wp _ _ _ _ _
    refine block ?_
    refine loop (fun f w zz => ∃ (k : Nat), f 1 = .int .i64 (i : Int) ∧ f 2 = .pointer (some ⟨b2, 0, none⟩) ∧ f 5 = .pointer (some ⟨b5, 0, none⟩) ∧ f 6 = .int .i64 (k : Int) ∧ StX [] w0 w [blk b5 [.string c.name, .slice a1 c.heights.length cap1, .int .i64 c.off, .int .i64 c.step, .int .i64 c.den, .int .i64 c.slack] 46, blk b2 [.int .i64 t.mean, .slice a t.consts.length cap] 24] ∧ (k ≤ i) ∧ (memB c.name ((t.consts.take k).map (·.name)) = false) ∧ zz = i - k) _ ⟨_, rfl, 0, rfl, rfl, rfl, rfl, hS, (Nat.zero_le _), (rfl), rfl⟩ ?_
    clear hS
    rintro f w _ ⟨k, h1, h2, h5, h6, hS, hk, hM, rfl⟩
    refine seq ?_
    refine seq ?_
    refine region ?_
    refine sv (yMove h6) ?_
    refine sv (yMove h1) ?_
    refine sv (yLss rfl rfl) ?_
    refine nil ?_
    show Code.wp _ _ _ _ _
    refine cond rfl (fun c20 => ?_) (fun c20 => ?_)
    ·
      simp only [Bool.and_eq_true, Bool.or_eq_true, Bool.and_eq_false_iff, Bool.or_eq_false_iff, decide_eq_true_eq, decide_eq_false_iff_not, Bool.not_eq_true, Bool.not_eq_false, Bool.not_not, Bool.not_eq_eq_eq_not, Bool.not_true, Bool.not_false, Bool.false_eq_true, Bool.true_eq_false, ne_eq, Decidable.not_not, not_false_eq_true, not_true_eq_false] at c20
      obtain ⟨d, hy, hyd⟩ := drop_of (l := t.consts) (k := k) (by omega)
      obtain ⟨b2', o2, cs2, ha2, hlen2, hcs2, hR2⟩ := hel k (by omega)
      obtain rfl : d = t.consts[k] := (List.getElem?_eq_some_iff.1 hy).2.symm
      generalize t.consts[k] = d at hy hyd hR2
      obtain ⟨hv2, rfl, _⟩ := hR2
      refine skip ?_
      show Code.wp _ _ _ _ _
      refine seq ?_
      refine block ?_
      refine seq ?_
      refine region_draw mixed (by kernel_rfl) hS ?_
      refine qv (fun w hS => (fa24_1 h2)) ?_
      refine qv (fun w hS => (yLdB rfl Try.isAgg22 (hS.at _) rfl)) ?_
      refine qv (fun w hS => (yMove h6)) ?_
      refine qv (fun w hS => (yIxa rfl ha2 rfl Try.runUnderlying22 Try.sizeOf46 (by omega) (by omega))) ?_
      refine qv (fun w hS => (fa46_0 rfl)) ?_
      refine qv (fun w hS => (yLd rfl Try.isAgg9 ((hcs2.ext hS.ext).at (j := 0) rfl))) ?_
      refine qv (fun w hS => (fa46_0 h5)) ?_
      refine qv (fun w hS => (yLdB rfl Try.isAgg9 (hS.at _) rfl)) ?_
      refine qv (fun w hS => (ySEq rfl rfl)) ?_
      clear hS; refine qnil (fun w hS => ?_)
      show Code.wp _ _ _ _ _
      refine cond rfl (fun c31 => ?_) (fun c31 => ?_)
      ·
        simp only [Bool.and_eq_true, Bool.or_eq_true, Bool.and_eq_false_iff, Bool.or_eq_false_iff, decide_eq_true_eq, decide_eq_false_iff_not, Bool.not_eq_true, Bool.not_eq_false, Bool.not_not, Bool.not_eq_eq_eq_not, Bool.not_true, Bool.not_false, Bool.false_eq_true, Bool.true_eq_false, ne_eq, Decidable.not_not, not_false_eq_true, not_true_eq_false] at c31
        refine seq ?_
        refine region ?_
        refine sv (yAsg rfl) ?_
        refine nil ?_
        show Code.wp _ _ _ _ _
        refine wp_ret (blockR (thenR (thenR (blockR (thenR ?_)))))
        exact retV (res1 rfl (eqI (cErr5 c17 (mem_take hy (by omega) c31)))) hS.ext
      ·
        simp only [Bool.and_eq_true, Bool.or_eq_true, Bool.and_eq_false_iff, Bool.or_eq_false_iff, decide_eq_true_eq, decide_eq_false_iff_not, Bool.not_eq_true, Bool.not_eq_false, Bool.not_not, Bool.not_eq_eq_eq_not, Bool.not_true, Bool.not_false, Bool.false_eq_true, Bool.true_eq_false, ne_eq, Decidable.not_not, not_false_eq_true, not_true_eq_false] at c31
        refine skip ?_
        show Code.wp _ _ _ _ _
        refine region ?_
        refine sv (yMove h6) ?_
        refine sv (yAdd rfl rfl ⟨by omega, by omega⟩) ?_
        refine sv (yAsg rfl) ?_
        refine nil ?_
        exact ⟨_, _, rfl, ⟨k + 1, h1, h2, h5, rfl, hS, (by omega), (by rw [take_names hy, memB_snoc, hM, decide_eq_false (fun h => c31 h.symm)]; rfl), rfl⟩, by omega⟩
    ·
      simp only [Bool.and_eq_true, Bool.or_eq_true, Bool.and_eq_false_iff, Bool.or_eq_false_iff, decide_eq_true_eq, decide_eq_false_iff_not, Bool.not_eq_true, Bool.not_eq_false, Bool.not_not, Bool.not_eq_eq_eq_not, Bool.not_true, Bool.not_false, Bool.false_eq_true, Bool.true_eq_false, ne_eq, Decidable.not_not, not_false_eq_true, not_true_eq_false] at c20
      obtain rfl : k = i := by omega
      refine exit ?_
      show Code.wp _ _ _ _ _
      refine seq ?_
      refine seq ?_
      refine region ?_
      refine sv (fa46_1 h5) ?_
      refine sv (yLdB rfl Try.isAgg44 (hS.at _) rfl) ?_
      refine sv (yLen rfl Try.underlying44) ?_
      refine scall Try.call63 (.cons rfl (.cons rfl (.cons rfl .nil))) c_in ?_
      rintro _ w ⟨rfl, hE⟩; replace hS := hS.step hE; clear hE
      refine sv (yNot rfl) ?_
      refine nil ?_
      show Code.wp _ _ _ _ _
      refine cond rfl (fun c36 => ?_) (fun c36 => ?_)
      ·
        simp only [Bool.and_eq_true, Bool.or_eq_true, Bool.and_eq_false_iff, Bool.or_eq_false_iff, decide_eq_true_eq, decide_eq_false_iff_not, Bool.not_eq_true, Bool.not_eq_false, Bool.not_not, Bool.not_eq_eq_eq_not, Bool.not_true, Bool.not_false, Bool.false_eq_true, Bool.true_eq_false, ne_eq, Decidable.not_not, not_false_eq_true, not_true_eq_false, inB] at c36
        refine seq ?_
        refine region ?_
        refine sv (yAsg rfl) ?_
        refine nil ?_
        show Code.wp _ _ _ _ _
        refine wp_ret (thenR ?_)
        exact retV (res1 rfl (eqI (cErr3 c17 hM (by omega)))) hS.ext
      ·
        simp only [Bool.and_eq_true, Bool.or_eq_true, Bool.and_eq_false_iff, Bool.or_eq_false_iff, decide_eq_true_eq, decide_eq_false_iff_not, Bool.not_eq_true, Bool.not_eq_false, Bool.not_not, Bool.not_eq_eq_eq_not, Bool.not_true, Bool.not_false, Bool.false_eq_true, Bool.true_eq_false, ne_eq, Decidable.not_not, not_false_eq_true, not_true_eq_false, inB] at c36
        refine skip ?_
        show Code.wp _ _ _ _ _
        refine seq ?_
        refine region ?_
        refine sv (fa46_4 h5) ?_
        refine sv (yLdB rfl Try.isAgg3 (hS.at _) rfl) ?_
        refine scall Try.call63 (.cons rfl (.cons rfl (.cons rfl .nil))) c_in ?_
        rintro _ w ⟨rfl, hE⟩; replace hS := hS.step hE; clear hE
        refine sv (yMove rfl) ?_
        refine sg rfl rfl rfl (fun g => (fa46_3 h5)) (fun v41 g41 => ?_)
        refine sg rfl rfl rfl (fun g => (yLdB (g41.1 g) Try.isAgg3 (hS.at _) rfl)) (fun v42 g42 => ?_)
        refine sgc hS rfl rfl rfl Try.call63 (fun g => (.cons (g42.1 g) (.cons rfl (.cons rfl .nil)))) (fun g => c_in) ?_; clear hS; intro v43 w hS g43
        refine sv (yAnd rfl (fun hB => (g43.1 hB)) rfl) ?_
        refine sv (yMove rfl) ?_
        refine sg rfl rfl rfl (fun g => (fa46_5 h5)) (fun v46 g46 => ?_)
        refine sg rfl rfl rfl (fun g => (yLdB (g46.1 g) Try.isAgg3 (hS.at _) rfl)) (fun v47 g47 => ?_)
        refine sgc hS rfl rfl rfl Try.call63 (fun g => (.cons (g47.1 g) (.cons rfl (.cons rfl .nil)))) (fun g => c_in) ?_; clear hS; intro v48 w hS g48
        refine sv (yAnd rfl (fun hB => (g48.1 hB)) rfl) ?_
        refine sv (yAsg rfl) ?_
        refine nil ?_
        show Code.wp _ _ _ _ _
        refine seq ?_
        refine seq ?_
        refine region ?_
        refine sv (yAsg rfl) ?_
        refine nil ?_
        show Code.wp _ _ _ _ _
        refine block ?_
        refine loop (fun f w zz => ∃ (k : Nat) (G : Bool), f 5 = .pointer (some ⟨b5, 0, none⟩) ∧ f 7 = .bool G ∧ f 8 = .int .i64 (k : Int) ∧ StX [] w0 w [blk b5 [.string c.name, .slice a1 c.heights.length cap1, .int .i64 c.off, .int .i64 c.step, .int .i64 c.den, .int .i64 c.slack] 46, blk b2 [.int .i64 t.mean, .slice a t.consts.length cap] 24] ∧ (k ≤ c.heights.length) ∧ (G = (baseB c && heightsB (c.heights.take k))) ∧ zz = c.heights.length - k) _ ⟨_, rfl, 0, _, h5, rfl, rfl, hS, (Nat.zero_le _), (by rw [List.take_zero]; exact (Bool.and_true _).symm), rfl⟩ ?_
        clear hS
        rintro f w _ ⟨k, G, h5, h7, h8, hS, hk, hG, rfl⟩
        refine seq ?_
        refine seq ?_
        refine region ?_
        refine sv (yMove h8) ?_
        refine sv (fa46_1 h5) ?_
        refine sv (yLdB rfl Try.isAgg44 (hS.at _) rfl) ?_
        refine sv (yLen rfl Try.underlying44) ?_
        refine sv (yLss rfl rfl) ?_
        refine nil ?_
        show Code.wp _ _ _ _ _
        refine cond rfl (fun c54 => ?_) (fun c54 => ?_)
        ·
          simp only [Bool.and_eq_true, Bool.or_eq_true, Bool.and_eq_false_iff, Bool.or_eq_false_iff, decide_eq_true_eq, decide_eq_false_iff_not, Bool.not_eq_true, Bool.not_eq_false, Bool.not_not, Bool.not_eq_eq_eq_not, Bool.not_true, Bool.not_false, Bool.false_eq_true, Bool.true_eq_false, ne_eq, Decidable.not_not, not_false_eq_true, not_true_eq_false] at c54
          obtain ⟨z, hz, hzd⟩ := drop_of (l := c.heights) (k := k) (by omega)
          obtain ⟨b3, o3, cs3, ha3, hlen3, hcs3, hR3⟩ := hq3 k (by omega)
          obtain rfl : z = c.heights[k] := (List.getElem?_eq_some_iff.1 hz).2.symm
          obtain ⟨rfl, hz64⟩ := hR3
          refine skip ?_
          show Code.wp _ _ _ _ _
          refine seq ?_
          refine block ?_
          refine region ?_
          refine sv (yMove h7) ?_
          refine sv (yMove rfl) ?_
          refine sg rfl rfl rfl (fun g => (fa46_1 h5)) (fun v59 g59 => ?_)
          refine sg rfl rfl rfl (fun g => (yLdB (g59.1 g) Try.isAgg44 (hS.at _) rfl)) (fun v60 g60 => ?_)
          refine sg rfl rfl rfl (fun g => (yMove h8)) (fun v61 g61 => ?_)
          refine sg rfl rfl rfl (fun g => (yIxa (g60.1 g) ha3 (g61.1 g) Try.runUnderlying44 Try.sizeOf3 (by omega) (by omega))) (fun v62 g62 => ?_)
          refine sg rfl rfl rfl (fun g => (yLd (g62.1 g) Try.isAgg3 (hcs3.ext hS.ext).one)) (fun v63 g63 => ?_)
          refine sgc hS rfl rfl rfl Try.call63 (fun g => (.cons (g63.1 g) (.cons rfl (.cons rfl .nil)))) (fun g => c_in) ?_; clear hS; intro v64 w hS g64
          refine sv (yAnd rfl (fun hB => (g64.1 hB)) rfl) ?_
          refine sv (yAsg rfl) ?_
          refine nil ?_
          show Code.wp _ _ _ _ _
          refine region ?_
          refine sv (yMove h8) ?_
          refine sv (yAdd rfl rfl ⟨by omega, by omega⟩) ?_
          refine sv (yAsg rfl) ?_
          refine nil ?_
          exact ⟨_, _, rfl, ⟨k + 1, _, h5, rfl, rfl, hS, (by omega), (by rw [heightsB_snoc hz, ← Bool.and_assoc, ← hG]), rfl⟩, by omega⟩
        ·
          simp only [Bool.and_eq_true, Bool.or_eq_true, Bool.and_eq_false_iff, Bool.or_eq_false_iff, decide_eq_true_eq, decide_eq_false_iff_not, Bool.not_eq_true, Bool.not_eq_false, Bool.not_not, Bool.not_eq_eq_eq_not, Bool.not_true, Bool.not_false, Bool.false_eq_true, Bool.true_eq_false, ne_eq, Decidable.not_not, not_false_eq_true, not_true_eq_false] at c54
          obtain rfl : k = c.heights.length := by omega
          rw [List.take_length] at hG
          refine exit ?_
          show Code.wp _ _ _ _ _
          refine seq ?_
          refine seq ?_
          refine region ?_
          refine sv (yMove h7) ?_
          refine sv (yNot rfl) ?_
          refine sv (yMove rfl) ?_
          refine sg rfl rfl rfl (fun g => (fa46_2 h5)) (fun v69 g69 => ?_)
          refine sg rfl rfl rfl (fun g => (yLdB (g69.1 g) Try.isAgg3 (hS.at _) rfl)) (fun v70 g70 => ?_)
          refine sg rfl rfl rfl (fun g => (fa46_4 h5)) (fun v71 g71 => ?_)
          refine sg rfl rfl rfl (fun g => (yLdB (g71.1 g) Try.isAgg3 (hS.at _) rfl)) (fun v72 g72 => ?_)
          refine sg rfl rfl rfl (fun g => (fa46_1 h5)) (fun v73 g73 => ?_)
          refine sg rfl rfl rfl (fun g => (yLdB (g73.1 g) Try.isAgg44 (hS.at _) rfl)) (fun v74 g74 => ?_)
          refine sg rfl rfl rfl (fun g => (yLen (g74.1 g) Try.underlying44)) (fun v75 g75 => ?_)
          refine sg rfl rfl rfl (fun g => (yMul (g72.1 g) (g75.1 g) (by have := base_den (hG ▸ g); have := cyc_bd this.1 this.2 c36.2; exact ⟨by omega, by omega⟩))) (fun v76 g76 => ?_)
          refine sg rfl rfl rfl (fun g => (ySub (g76.1 g) rfl (by have := base_den (hG ▸ g); have := cyc_bd this.1 this.2 c36.2; exact ⟨by omega, by omega⟩))) (fun v77 g77 => ?_)
          refine sgc hS rfl rfl rfl Try.call63 (fun g => (.cons (g70.1 g) (.cons rfl (.cons (g77.1 g) .nil)))) (fun g => c_in) ?_; clear hS; intro v78 w hS g78
          refine sg rfl rfl rfl (fun g => (yNot (g78.1 g))) (fun v79 g79 => ?_)
          refine sv (yOr rfl rfl (fun hB => (g79.1 hB))) ?_
          refine nil ?_
          show Code.wp _ _ _ _ _
          refine cond rfl (fun c80 => ?_) (fun c80 => ?_)
          ·
            subst hG; rw [numsB_eq] at c80
            refine seq ?_
            refine region ?_
            refine sv (yAsg rfl) ?_
            refine nil ?_
            show Code.wp _ _ _ _ _
            refine wp_ret (thenR ?_)
            exact retV (res1 rfl (eqI (by rw [cErr7 c17 hM c36, if_pos c80]))) hS.ext
          ·
            subst hG; rw [numsB_eq] at c80
            refine skip ?_
            show Code.wp _ _ _ _ _
            refine seq ?_
            refine region ?_
            refine sv (yAsg rfl) ?_
            refine nil ?_
            show Code.wp _ _ _ _ _
            refine wp_ret ?_
            exact retV (res1 rfl (eqI (by rw [cErr7 c17 hM c36, if_neg (by rw [c80]; decide)]))) hS.ext
set_option maxHeartbeats 1000000 in
/-- barrage/barrageref01.Check -/
theorem c_rCheck {t : Table} {cs : List Value} {w0 : World} (ht : RTable w0 cs t) : CV Try.prog 20 #[.agg cs.toArray] w0 (.tuple #[.int .i64 (checkT t).1, .int .i64 (checkT t).2]) := by
  obtain ⟨cv, rfl, hmean, hsl⟩ := id ht
  obtain ⟨a, cap, rfl, hcap, hmx, hel⟩ := id hsl
  refine enter Try.func20 rfl Try.ntmps20 rfl ?_
  have hS := St.start w0
  refine seq ?_
  refine region ?_
  refine sbox hS rfl rfl ?_; clear hS; intro b1 w hS
  refine sv (yAsg rfl) ?_
  refine sv (yAsg rfl) ?_
  refine nil ?_
  show Code.wp _ _ _ _ _
  refine seq ?_
  refine seq ?_
  refine region ?_
  refine sv (fa24_0 rfl) ?_
  refine sv (yLdB rfl Try.isAgg3 (hS.at _) rfl) ?_
  refine scall Try.call63 (.cons rfl (.cons rfl (.cons rfl .nil))) c_in ?_
  rintro _ w ⟨rfl, hE⟩; replace hS := hS.step hE; clear hE
  refine sv (yNot rfl) ?_
  refine nil ?_
  show Code.wp _ _ _ _ _
  refine cond rfl (fun c9 => ?_) (fun c9 => ?_)
  ·
    simp only [Bool.and_eq_true, Bool.or_eq_true, Bool.and_eq_false_iff, Bool.or_eq_false_iff, decide_eq_true_eq, decide_eq_false_iff_not, Bool.not_eq_true, Bool.not_eq_false, Bool.not_not, Bool.not_eq_eq_eq_not, Bool.not_true, Bool.not_false, Bool.false_eq_true, Bool.true_eq_false, ne_eq, Decidable.not_not, not_false_eq_true, not_true_eq_false, inB] at c9
    refine seq ?_
    refine region ?_
    refine sv (yAsg rfl) ?_
    refine sv (yAsg rfl) ?_
    refine nil ?_
    show Code.wp _ _ _ _ _
    have hfin : checkT t = (-1, 7) := by unfold checkT; rw [if_pos (by rw [outB_true]; omega)]
    refine wp_ret (thenR ?_)
    exact retV (res2 rfl (fstI hfin) (sndI hfin)) hS.ext
  ·
    simp only [Bool.and_eq_true, Bool.or_eq_true, Bool.and_eq_false_iff, Bool.or_eq_false_iff, decide_eq_true_eq, decide_eq_false_iff_not, Bool.not_eq_true, Bool.not_eq_false, Bool.not_not, Bool.not_eq_eq_eq_not, Bool.not_true, Bool.not_false, Bool.false_eq_true, Bool.true_eq_false, ne_eq, Decidable.not_not, not_false_eq_true, not_true_eq_false, inB] at c9
    refine skip ?_
    show Code.wp _ _ _ _ _
    refine seq ?_
    refine seq ?_
    refine region ?_
    refine sv (fa24_1 rfl) ?_
    refine sv (yLdB rfl Try.isAgg22 (hS.at _) rfl) ?_
    refine sv (yLen rfl Try.underlying22) ?_
    refine sv (yGtr rfl rfl) ?_
    refine nil ?_
    show Code.wp _ _ _ _ _
    refine cond rfl (fun c13 => ?_) (fun c13 => ?_)
    ·
      simp only [Bool.and_eq_true, Bool.or_eq_true, Bool.and_eq_false_iff, Bool.or_eq_false_iff, decide_eq_true_eq, decide_eq_false_iff_not, Bool.not_eq_true, Bool.not_eq_false, Bool.not_not, Bool.not_eq_eq_eq_not, Bool.not_true, Bool.not_false, Bool.false_eq_true, Bool.true_eq_false, ne_eq, Decidable.not_not, not_false_eq_true, not_true_eq_false] at c13
      refine seq ?_
      refine region ?_
      refine sv (yAsg rfl) ?_
      refine sv (yAsg rfl) ?_
      refine nil ?_
      show Code.wp _ _ _ _ _
      have hfin : checkT t = (-1, 3) := by unfold checkT; rw [if_neg (by rw [Bool.not_eq_true, outB_false]; omega), if_pos c13]
      refine wp_ret (thenR ?_)
      exact retV (res2 rfl (fstI hfin) (sndI hfin)) hS.ext
    ·
      simp only [Bool.and_eq_true, Bool.or_eq_true, Bool.and_eq_false_iff, Bool.or_eq_false_iff, decide_eq_true_eq, decide_eq_false_iff_not, Bool.not_eq_true, Bool.not_eq_false, Bool.not_not, Bool.not_eq_eq_eq_not, Bool.not_true, Bool.not_false, Bool.false_eq_true, Bool.true_eq_false, ne_eq, Decidable.not_not, not_false_eq_true, not_true_eq_false] at c13
      have hgood : checkT t = checkL t.consts [] 0 := by unfold checkT; rw [if_neg (by rw [Bool.not_eq_true, outB_false]; omega), if_neg c13]
      refine skip ?_
      show Code.wp _ _ _ _ _
      refine seq ?_
      refine seq ?_
      refine region ?_
      refine sv (yAsg rfl) ?_
      refine nil ?_
      show Code.wp _ _ _ _ _
      refine block ?_
      refine loop (fun f w zz => ∃ (k : Nat), f 1 = .pointer (some ⟨b1, 0, none⟩) ∧ f 4 = .int .i64 (k : Int) ∧ StX [] w0 w [blk b1 [.int .i64 t.mean, .slice a t.consts.length cap] 24] ∧ (k ≤ t.consts.length) ∧ (checkT t = checkL (t.consts.drop k) ((t.consts.take k).map (·.name)) k) ∧ zz = t.consts.length - k) _ ⟨_, rfl, 0, rfl, rfl, hS, (Nat.zero_le _), (hgood), rfl⟩ ?_
      clear hS
      rintro f w _ ⟨k, h1, h4, hS, hk, hI, rfl⟩
      refine seq ?_
      refine seq ?_
      refine region ?_
      refine sv (yMove h4) ?_
      refine sv (fa24_1 h1) ?_
      refine sv (yLdB rfl Try.isAgg22 (hS.at _) rfl) ?_
      refine sv (yLen rfl Try.underlying22) ?_
      refine sv (yLss rfl rfl) ?_
      refine nil ?_
      show Code.wp _ _ _ _ _
      refine cond rfl (fun c18 => ?_) (fun c18 => ?_)
      ·
        simp only [Bool.and_eq_true, Bool.or_eq_true, Bool.and_eq_false_iff, Bool.or_eq_false_iff, decide_eq_true_eq, decide_eq_false_iff_not, Bool.not_eq_true, Bool.not_eq_false, Bool.not_not, Bool.not_eq_eq_eq_not, Bool.not_true, Bool.not_false, Bool.false_eq_true, Bool.true_eq_false, ne_eq, Decidable.not_not, not_false_eq_true, not_true_eq_false] at c18
        obtain ⟨c, hx, hd⟩ := drop_of (l := t.consts) (k := k) (by omega)
        refine skip ?_
        show Code.wp _ _ _ _ _
        refine seq ?_
        refine block ?_
        refine seq ?_
        refine region ?_
        refine sv (yLdBA h1 Try.isAgg24 Try.sizeOf24 (hS.at _) rfl rfl) ?_
        refine sv (yMove h4) ?_
        refine scall Try.call64 (.cons rfl (.cons rfl .nil)) (c_rConst (ht.ext hS.ext) hx) ?_
        rintro _ w ⟨rfl, hE⟩; replace hS := hS.step hE; clear hE
        refine sv (yAsg rfl) ?_
        refine nil ?_
        show Code.wp _ _ _ _ _
        refine seq ?_
        refine region ?_
        refine sv (yMove rfl) ?_
        refine sv (yNeq rfl rfl) ?_
        refine nil ?_
        show Code.wp _ _ _ _ _
        refine cond rfl (fun c25 => ?_) (fun c25 => ?_)
        ·
          simp only [Bool.and_eq_true, Bool.or_eq_true, Bool.and_eq_false_iff, Bool.or_eq_false_iff, decide_eq_true_eq, decide_eq_false_iff_not, Bool.not_eq_true, Bool.not_eq_false, Bool.not_not, Bool.not_eq_eq_eq_not, Bool.not_true, Bool.not_false, Bool.false_eq_true, Bool.true_eq_false, ne_eq, Decidable.not_not, not_false_eq_true, not_true_eq_false] at c25
          refine seq ?_
          refine region ?_
          refine sv (yMove h4) ?_
          refine sv (yMove rfl) ?_
          refine sv (yAsg rfl) ?_
          refine sv (yAsg rfl) ?_
          refine nil ?_
          show Code.wp _ _ _ _ _
          have hfin : checkT t = ((k : Int), cErr ((t.consts.take k).map (·.name)) c) := by rw [hI, hd, checkL, if_pos c25]
          refine wp_ret (blockR (thenR (thenR (blockR (thenR ?_)))))
          exact retV (res2 rfl (fstI hfin) (sndI hfin)) hS.ext
        ·
          simp only [Bool.and_eq_true, Bool.or_eq_true, Bool.and_eq_false_iff, Bool.or_eq_false_iff, decide_eq_true_eq, decide_eq_false_iff_not, Bool.not_eq_true, Bool.not_eq_false, Bool.not_not, Bool.not_eq_eq_eq_not, Bool.not_true, Bool.not_false, Bool.false_eq_true, Bool.true_eq_false, ne_eq, Decidable.not_not, not_false_eq_true, not_true_eq_false] at c25
          refine skip ?_
          show Code.wp _ _ _ _ _
          refine region ?_
          refine sv (yMove h4) ?_
          refine sv (yAdd rfl rfl ⟨by omega, by omega⟩) ?_
          refine sv (yAsg rfl) ?_
          refine nil ?_
          exact ⟨_, _, rfl, ⟨k + 1, h1, rfl, hS, (by omega), (by rw [hI, hd, checkL, if_neg (fun h => h c25), take_names hx]; rfl), rfl⟩, by omega⟩
      ·
        simp only [Bool.and_eq_true, Bool.or_eq_true, Bool.and_eq_false_iff, Bool.or_eq_false_iff, decide_eq_true_eq, decide_eq_false_iff_not, Bool.not_eq_true, Bool.not_eq_false, Bool.not_not, Bool.not_eq_eq_eq_not, Bool.not_true, Bool.not_false, Bool.false_eq_true, Bool.true_eq_false, ne_eq, Decidable.not_not, not_false_eq_true, not_true_eq_false] at c18
        obtain rfl : k = t.consts.length := by omega
        refine exit ?_
        show Code.wp _ _ _ _ _
        refine seq ?_
        refine region ?_
        refine sv (yAsg rfl) ?_
        refine sv (yAsg rfl) ?_
        refine nil ?_
        show Code.wp _ _ _ _ _
        have hfin : checkT t = (0, 0) := by rw [hI, List.drop_length]; rfl
        refine wp_ret ?_
        exact retV (res2 rfl (fstI hfin) (sndI hfin)) hS.ext
end Go.Proofs.Ytpgmehignepidaa
/- part Wk3 -/
namespace Go.Proofs.Ytpgmehignepidaa
open Go Bx
/-- barrage/tide.floor -/
theorem c_floor {a b : Int} {w0 : World} (hb : 0 < b) (ha : Bd a (-1000000000000) 1000000000000) : CV Try.prog 115 #[.int .i64 a, .int .i64 b] w0 (.int .i64 (a / b)) := by
  refine enter Try.func115 rfl Try.ntmps115 rfl ?_
  have hS := St.start w0
  refine seq ?_
  refine region ?_
  refine sv (yAsg rfl) ?_
  refine nil ?_
  show Code.wp _ _ _ _ _
  refine seq ?_
  refine seq ?_
  refine region ?_
  refine sv (yMove rfl) ?_
  refine sv (yMove rfl) ?_
  refine sv (yRem rfl rfl (by omega)) ?_
  refine sv (yLss rfl rfl) ?_
  refine nil ?_
  show Code.wp _ _ _ _ _
  refine cond rfl (fun c8 => ?_) (fun c8 => ?_)
  ·
    simp only [Bool.and_eq_true, Bool.or_eq_true, Bool.and_eq_false_iff, Bool.or_eq_false_iff, decide_eq_true_eq, decide_eq_false_iff_not, Bool.not_eq_true, Bool.not_eq_false, Bool.not_not, Bool.not_eq_eq_eq_not, Bool.not_true, Bool.not_false, Bool.false_eq_true, Bool.true_eq_false, ne_eq, Decidable.not_not, not_false_eq_true, not_true_eq_false] at c8
    refine seq ?_
    refine region ?_
    refine sv (yMove rfl) ?_
    refine sv (yMove rfl) ?_
    refine sv (yQuo rfl rfl (by omega) ⟨by omega, by omega⟩) ?_
    refine sv (ySub rfl rfl (by have := tdiv_bd hb ha; exact ⟨by omega, by omega⟩)) ?_
    refine sv (yAsg rfl) ?_
    refine nil ?_
    show Code.wp _ _ _ _ _
    refine wp_ret (thenR ?_)
    exact retV (res1 rfl (eqI (by rw [← tdiv_floor hb, if_pos c8]))) hS.ext
  ·
    simp only [Bool.and_eq_true, Bool.or_eq_true, Bool.and_eq_false_iff, Bool.or_eq_false_iff, decide_eq_true_eq, decide_eq_false_iff_not, Bool.not_eq_true, Bool.not_eq_false, Bool.not_not, Bool.not_eq_eq_eq_not, Bool.not_true, Bool.not_false, Bool.false_eq_true, Bool.true_eq_false, ne_eq, Decidable.not_not, not_false_eq_true, not_true_eq_false] at c8
    refine skip ?_
    show Code.wp _ _ _ _ _
    refine seq ?_
    refine region ?_
    refine sv (yMove rfl) ?_
    refine sv (yMove rfl) ?_
    refine sv (yQuo rfl rfl (by omega) ⟨by omega, by omega⟩) ?_
    refine sv (yAsg rfl) ?_
    refine nil ?_
    show Code.wp _ _ _ _ _
    refine wp_ret ?_
    exact retV (res1 rfl (eqI (by rw [← tdiv_floor hb, if_neg c8]))) hS.ext
/-- (*barrage/tide.span).add -/
theorem c_add {b o : Nat} {T : TypeId} {cs : List Value} {lo hi : Int} {x : Span} {w0 : World} (hb : w0.heap[b]? = some (.cells cs.toArray T (0, 0))) (h0 : cs[o]? = some (.int .i64 lo)) (h1 : cs[o + 1]? = some (.int .i64 hi)) (hlo : I64 (lo + x.lo)) (hhi : I64 (hi + x.hi)) : CE Try.prog 101 #[.pointer (some ⟨b, o, none⟩), .agg (spanC x).toArray] w0 (fun v w' => v = .tuple #[] ∧ Put b (.cells (splice cs o [.int .i64 (lo + x.lo), .int .i64 (hi + x.hi)]).toArray T (0, 0)) w0 w') := by
  refine enter Try.func101 rfl Try.ntmps101 rfl ?_
  have hS := StX.start1 (b := b) ⟨_, hb, rfl⟩
  have hlen : o + 2 ≤ cs.length := (List.getElem?_eq_some_iff.1 h1).1
  refine seq ?_
  refine region ?_
  refine sbox hS rfl rfl ?_; clear hS; intro b3 w hS
  refine nil ?_
  show Code.wp _ _ _ _ _
  refine seq ?_
  refine region_tail mixed 11 (by kernel_rfl) hS ?_
  refine qv (fun w hS => (yMove rfl)) ?_
  refine qv (fun w hS => (yNil rfl)) ?_
  refine qv (fun w hS => (fa127_0 rfl)) ?_
  refine qv (fun w hS => (fa38_0 rfl)) ?_
  refine qv (fun w hS => (yLdB rfl Try.isAgg3 (hS.at _) h0)) ?_
  refine qv (fun w hS => (fa38_0 rfl)) ?_
  refine qv (fun w hS => (yLdB rfl Try.isAgg3 (hS.at _) rfl)) ?_
  refine qv (fun w hS => (yAdd rfl rfl hlo)) ?_
  refine qv (fun w hS => (yNil rfl)) ?_
  refine qv (fun w hS => (fa127_0 rfl)) ?_
  refine qv (fun w hS => (fa38_0 rfl)) ?_
  clear hS; refine qtl (fun w hS => ?_)
  refine sst hS rfl rfl Try.sizeOf3 rfl rfl (by rw [Nat.ble_eq]; omega) rfl ?_; clear hS; intro w hS
  refine nil ?_
  show Code.wp _ _ _ _ _
  refine region_tail mixed 11 (by kernel_rfl) hS ?_
  refine qv (fun w hS => (yMove rfl)) ?_
  refine qv (fun w hS => (yNil rfl)) ?_
  refine qv (fun w hS => (fa127_0 rfl)) ?_
  refine qv (fun w hS => (fa38_1 rfl)) ?_
  refine qv (fun w hS => (yLdB rfl Try.isAgg3 (hS.at _) ((splice_get cs o _ hlen).trans h1))) ?_
  refine qv (fun w hS => (fa38_1 rfl)) ?_
  refine qv (fun w hS => (yLdB rfl Try.isAgg3 (hS.at _) rfl)) ?_
  refine qv (fun w hS => (yAdd rfl rfl hhi)) ?_
  refine qv (fun w hS => (yNil rfl)) ?_
  refine qv (fun w hS => (fa127_0 rfl)) ?_
  refine qv (fun w hS => (fa38_1 rfl)) ?_
  clear hS; refine qtl (fun w hS => ?_)
  refine sst hS rfl rfl Try.sizeOf3 rfl rfl (ble_splice (k := 1) rfl (by omega) (by omega)) rfl ?_; clear hS; intro w hS
  refine nil ?_
  show bodyPost _ _ _ _ _ _
  refine retN (results_none rfl _ _ _) ?_
  refine ⟨rfl, ?_⟩
  have h := hS.isPut
  have e := splice_two cs o (.int .i64 (lo + x.lo)) (.int .i64 (hi + x.hi)) hlen
  exact e ▸ h
set_option maxHeartbeats 1000000 in
/-- barrage/tide.parts closure 1 -/
theorem c_parts1 {bp bc : Nat} {Tp Tc : TypeId} {c : Const} {a : Option Addr} {cap : Nat} {pv : Int} {wb w0 : World} (hp : w0.heap[bp]? = some (.cells [.int .i64 pv].toArray Tp (0, 0))) (hc : w0.heap[bc]? = some (.cells [.string c.name, .slice a c.heights.length cap, .int .i64 c.off, .int .i64 c.step, .int .i64 c.den, .int .i64 c.slack].toArray Tc (0, 0))) (hne : bc ≠ bp) (hok : ConstOk c) (hpv : Bd pv 0 (c.den * c.heights.length - 1)) (he : Ext wb w0) (hbp : wb.heap.size ≤ bp) (hsl : Sl wb 1 RInt (.slice a c.heights.length cap) c.heights) : CE Try.prog 114 #[.pointer (some ⟨bp, 0, none⟩), .pointer (some ⟨bc, 0, none⟩)] w0 (fun v w' => v = .agg (spanC (partP c pv)).toArray ∧ Put bp (.cells [.int .i64 ((pv + c.step) % (c.den * c.heights.length))].toArray Tp (0, 0)) w0 w') := by
  refine enter Try.func114 rfl Try.ntmps114 rfl ?_
  have hS := StX.start1 (b := bp) ⟨_, hp, rfl⟩
  obtain ⟨a1, cap1, hae, hq1, hq2, hel⟩ := id hsl
  obtain ⟨rfl, rfl⟩ := slice_inj hae
  have hqb := quot_bd hok hpv
  have hcy := cyc_pos hok
  have hden := hok.den
  have hln := hok.len
  have hst := hok.step
  have hsk := hok.slack
  have hib := interp_bd hok hpv
  have hm1 : Bd ((pv / c.den + 1) % c.heights.length) 0 (c.heights.length - 1) := ⟨Int.emod_nonneg _ (by omega), by have := Int.emod_lt_of_pos (pv / c.den + 1) (show 0 < (c.heights.length : Int) by omega); omega⟩
  have hh0 := height_bd hok (pv / c.den).toNat
  have hh1 := height_bd hok ((pv / c.den + 1) % c.heights.length).toNat
  have hmb := mul_bd (B := 1000) hh0 ⟨show 0 ≤ c.den by omega, hden.2⟩ (by decide)
  have hmb2 := mul_bd (a := c.heights.getD ((pv / c.den + 1) % c.heights.length).toNat 0 - c.heights.getD (pv / c.den).toNat 0) (A := 20000) (B := 1000) ⟨by omega, by omega⟩ ⟨hqb.2.1, by omega⟩ (by decide)
  obtain ⟨b2, o2, cs2, ha2, hlen2, hcs2, hR2⟩ := hel (pv / c.den).toNat (by omega)
  obtain ⟨rfl, _⟩ := hR2
  rw [show c.heights[(pv / c.den).toNat] = c.heights.getD (pv / c.den).toNat 0 from getD_at _ _ (by omega)] at hcs2
  obtain ⟨b3, o3, cs3, ha3, hlen3, hcs3, hR3⟩ := hel ((pv / c.den + 1) % c.heights.length).toNat (by omega)
  obtain ⟨rfl, _⟩ := hR3
  rw [show c.heights[((pv / c.den + 1) % c.heights.length).toNat] = c.heights.getD ((pv / c.den + 1) % c.heights.length).toNat 0 from getD_at _ _ (by omega)] at hcs3
  refine seq ?_
  refine region ?_
  refine salloc hS Try.zeroValue38 rfl ?_; clear hS; intro b2 w hS
  refine nil ?_
  show Code.wp _ _ _ _ _
  refine seq ?_
  refine region_draw mixed (by kernel_rfl) hS ?_
  refine qv (fun w hS => (yLdB rfl Try.isAgg3 (hS.at _) rfl)) ?_
  refine qv (fun w hS => (fa46_4 rfl)) ?_
  refine qv (fun w hS => (yLdB rfl Try.isAgg3 (hS.extx.get hc (by simpa using hne)) rfl)) ?_
  refine qv (fun w hS => (yQuoP rfl rfl ⟨by omega, by omega⟩ (by omega))) ?_
  refine qv (fun w hS => (yLdB rfl Try.isAgg3 (hS.at _) rfl)) ?_
  refine qv (fun w hS => (fa46_4 rfl)) ?_
  refine qv (fun w hS => (yLdB rfl Try.isAgg3 (hS.extx.get hc (by simpa using hne)) rfl)) ?_
  refine qv (fun w hS => (yRemP rfl rfl (by omega) (by omega))) ?_
  refine qv (fun w hS => (yAsg rfl)) ?_
  refine qv (fun w hS => (yAsg rfl)) ?_
  clear hS; refine qnil (fun w hS => ?_)
  show Code.wp _ _ _ _ _
  refine seq ?_
  refine region_draw mixed (by kernel_rfl) hS ?_
  refine qv (fun w hS => (fa46_1 rfl)) ?_
  refine qv (fun w hS => (yLdB rfl Try.isAgg44 (hS.extx.get hc (by simpa using hne)) rfl)) ?_
  refine qv (fun w hS => (yMove rfl)) ?_
  refine qv (fun w hS => (yAdd rfl rfl ⟨by omega, by omega⟩)) ?_
  refine qv (fun w hS => (fa46_1 rfl)) ?_
  refine qv (fun w hS => (yLdB rfl Try.isAgg44 (hS.extx.get hc (by simpa using hne)) rfl)) ?_
  refine qv (fun w hS => (yLen rfl Try.underlying44)) ?_
  refine qv (fun w hS => (yRemP rfl rfl (by omega) (by omega))) ?_
  refine qv (fun w hS => (yIxa rfl ha3 rfl Try.runUnderlying44 Try.sizeOf3 (by omega) (by omega))) ?_
  refine qv (fun w hS => (yLd rfl Try.isAgg3 ((hcs3.ext (hS.extx.old he (by simpa using hbp))).one))) ?_
  refine qv (fun w hS => (yAsg rfl)) ?_
  clear hS; refine qnil (fun w hS => ?_)
  show Code.wp _ _ _ _ _
  refine seq ?_
  refine region_draw mixed (by kernel_rfl) hS ?_
  refine qv (fun w hS => (fa46_1 rfl)) ?_
  refine qv (fun w hS => (yLdB rfl Try.isAgg44 (hS.extx.get hc (by simpa using hne)) rfl)) ?_
  refine qv (fun w hS => (yMove rfl)) ?_
  refine qv (fun w hS => (yIxa rfl ha2 rfl Try.runUnderlying44 Try.sizeOf3 (by omega) (by omega))) ?_
  refine qv (fun w hS => (yLd rfl Try.isAgg3 ((hcs2.ext (hS.extx.old he (by simpa using hbp))).one))) ?_
  refine qv (fun w hS => (fa46_4 rfl)) ?_
  refine qv (fun w hS => (yLdB rfl Try.isAgg3 (hS.extx.get hc (by simpa using hne)) rfl)) ?_
  refine qv (fun w hS => (yMul rfl rfl ⟨by omega, by omega⟩)) ?_
  refine qv (fun w hS => (yMove rfl)) ?_
  refine qv (fun w hS => (fa46_1 rfl)) ?_
  refine qv (fun w hS => (yLdB rfl Try.isAgg44 (hS.extx.get hc (by simpa using hne)) rfl)) ?_
  refine qv (fun w hS => (yMove rfl)) ?_
  refine qv (fun w hS => (yIxa rfl ha2 rfl Try.runUnderlying44 Try.sizeOf3 (by omega) (by omega))) ?_
  refine qv (fun w hS => (yLd rfl Try.isAgg3 ((hcs2.ext (hS.extx.old he (by simpa using hbp))).one))) ?_
  refine qv (fun w hS => (ySub rfl rfl ⟨by omega, by omega⟩)) ?_
  refine qv (fun w hS => (yMove rfl)) ?_
  refine qv (fun w hS => (yMul rfl rfl ⟨by omega, by omega⟩)) ?_
  refine qv (fun w hS => (Y.to (yAdd rfl rfl ⟨by omega, by omega⟩) (congrArg _ (interp_eq c pv)))) ?_
  refine qv (fun w hS => (yAsg rfl)) ?_
  clear hS; refine qnil (fun w hS => ?_)
  show Code.wp _ _ _ _ _
  refine seq ?_
  refine region_tail mixed 7 (by kernel_rfl) hS ?_
  refine qv (fun w hS => (yLdB rfl Try.isAgg3 (hS.at _) rfl)) ?_
  refine qv (fun w hS => (fa46_3 rfl)) ?_
  refine qv (fun w hS => (yLdB rfl Try.isAgg3 (hS.extx.get hc (by simpa using hne)) rfl)) ?_
  refine qv (fun w hS => (yAdd rfl rfl ⟨by omega, by omega⟩)) ?_
  refine qv (fun w hS => (yLdBA rfl Try.isAgg46 Try.sizeOf46 (hS.extx.get hc (by simpa using hne)) rfl rfl)) ?_
  refine qcall Try.call61 (.cons rfl .nil) (fun w hS => (c_cycle ⟨by omega, by omega⟩)) ?_
  refine qv (fun w hS => (yRemP rfl rfl (by omega) (by omega))) ?_
  clear hS; refine qtl (fun w hS => ?_)
  refine sst hS rfl rfl Try.sizeOf3 rfl rfl rfl rfl ?_; clear hS; intro w hS
  refine nil ?_
  show Code.wp _ _ _ _ _
  refine seq ?_
  refine region_tail mixed 17 (by kernel_rfl) hS ?_
  refine qv (fun w hS => (yMove rfl)) ?_
  refine qv (fun w hS => (fa46_4 rfl)) ?_
  refine qv (fun w hS => (yLdB rfl Try.isAgg3 (hS.extx.get hc (by simpa using hne)) rfl)) ?_
  refine qcall Try.call115 (.cons rfl (.cons rfl .nil)) (fun w hS => (c_floor (by omega) ⟨by omega, by omega⟩)) ?_
  refine qv (fun w hS => (fa46_5 rfl)) ?_
  refine qv (fun w hS => (yLdB rfl Try.isAgg3 (hS.extx.get hc (by simpa using hne)) rfl)) ?_
  have hd1 := div_bd (A := 10000) (show 0 < c.den by omega) hib
  have hd2 := div_bd (a := -interp c pv) (b := c.den) (A := 10000) (by omega) ⟨by omega, by omega⟩
  refine qv (fun w hS => (ySub rfl rfl ⟨by omega, by omega⟩)) ?_
  refine qv (fun w hS => (yMove rfl)) ?_
  refine qv (fun w hS => (yNeg rfl ⟨by omega, by omega⟩)) ?_
  refine qv (fun w hS => (fa46_4 rfl)) ?_
  refine qv (fun w hS => (yLdB rfl Try.isAgg3 (hS.extx.get hc (by simpa using hne)) rfl)) ?_
  refine qcall Try.call115 (.cons rfl (.cons rfl .nil)) (fun w hS => (c_floor (by omega) ⟨by omega, by omega⟩)) ?_
  refine qv (fun w hS => (yNeg rfl ⟨by omega, by omega⟩)) ?_
  refine qv (fun w hS => (fa46_5 rfl)) ?_
  refine qv (fun w hS => (yLdB rfl Try.isAgg3 (hS.extx.get hc (by simpa using hne)) rfl)) ?_
  refine qv (fun w hS => (yAdd rfl rfl ⟨by omega, by omega⟩)) ?_
  refine qv (fun w hS => (yBuild Try.zeroValue38 rfl pl38 (.cons rfl rfl (.cons rfl rfl .nil)) rfl)) ?_
  clear hS; refine qtl (fun w hS => ?_)
  refine sst hS rfl rfl Try.sizeOf38 rfl rfl rfl rfl ?_; clear hS; intro w hS
  refine nil ?_
  show Code.wp _ _ _ _ _
  refine wp_ret ?_
  refine retQ (resV1 rfl (rc rfl Try.isAgg38 Try.sizeOf38 (hS.at _) rfl rfl)) ?_
  exact ⟨rfl, hS.isPut⟩
/-- barrage/tide.parts -/
theorem c_parts {c : Const} {a : Option Addr} {cap : Nat} {tick : Int} {w0 : World} (hok : ConstOk c) (ht : Bd tick 0 300000) : CE Try.prog 102 #[.agg [.string c.name, .slice a c.heights.length cap, .int .i64 c.off, .int .i64 c.step, .int .i64 c.den, .int .i64 c.slack].toArray, .int .i64 tick] w0 (fun v w' => ∃ bp bc, v = .func (.func 114) #[] [.pointer (some ⟨bp, 0, none⟩), .pointer (some ⟨bc, 0, none⟩)].toArray ∧ St w0 w' [blk bp [.int .i64 (pAt c tick)] 3, blk bc [.string c.name, .slice a c.heights.length cap, .int .i64 c.off, .int .i64 c.step, .int .i64 c.den, .int .i64 c.slack] 46]) := by
  refine enter Try.func102 rfl Try.ntmps102 rfl ?_
  have hS := St.start w0
  have hcy := cyc_pos hok
  have hst := hok.step
  have hof := hok.off
  have hmb := mul_bd (a := tick) (b := c.step) (A := 300000) (B := 100000) ⟨by omega, by omega⟩ ⟨by omega, by omega⟩ (by decide)
  rw [Int.mul_comm] at hmb
  have hnn : 0 ≤ c.step * tick := Int.mul_nonneg (by omega) ht.1
  refine seq ?_
  refine region ?_
  refine sbox hS rfl rfl ?_; clear hS; intro b2 w hS
  refine sv (yAsg rfl) ?_
  refine nil ?_
  show Code.wp _ _ _ _ _
  refine seq ?_
  refine region_any (C := (fun w => StX [] w0 w [blk b2 [.string c.name, .slice a c.heights.length cap, .int .i64 c.off, .int .i64 c.step, .int .i64 c.den, .int .i64 c.slack] 46])) mixed 8 11 (by kernel_rfl) (fun c a a' w h => by obtain ⟨_, v, hv, _⟩ := h; cases hv) hS (fun _ h => h) ?_
  clear hS; intro w hS
  refine hv (fun w hS => (fa46_2 rfl)) ?_
  refine hv (fun w hS => (yLdB rfl Try.isAgg3 (hS.at _) rfl)) ?_
  refine hv (fun w hS => (fa46_3 rfl)) ?_
  refine hv (fun w hS => (yLdB rfl Try.isAgg3 (hS.at _) rfl)) ?_
  refine hv (fun w hS => (yMove rfl)) ?_
  refine hv (fun w hS => (yMul rfl rfl ⟨by omega, by omega⟩)) ?_
  refine hv (fun w hS => (yAdd rfl rfl ⟨by omega, by omega⟩)) ?_
  refine hv (fun w hS => (yLdBA rfl Try.isAgg46 Try.sizeOf46 (hS.at _) rfl rfl)) ?_
  refine hnil ?_
  show wpA _ _ _ _ _ _ _ _ _ _
  refine a_step (i := 8) (is := [10]) (by kernel_rfl) ⟨?_, ?_, trivial⟩
  ·
    refine ⟨_, rfl, ?_⟩
    refine scall Try.call61 (.cons rfl .nil) (c_cycle ⟨by omega, by omega⟩) ?_
    rintro _ w ⟨rfl, hE⟩; replace hS := hS.step hE; clear hE
    refine nil ?_
    refine ⟨fun _ => hS.sub (List.Sublist.refl _), ?_⟩
    show wpA _ _ _ _ _ _ _ _ _ _
    refine a_step (i := 9) (is := [10]) (by kernel_rfl) ⟨?_, ?_, trivial⟩
    ·
      refine ⟨_, rfl, ?_⟩
      refine sv (yRemP rfl rfl (by omega) (by omega)) ?_
      refine nil ?_
      refine ⟨fun _ => hS.sub (List.Sublist.refl _), ?_⟩
      show wpA _ _ _ _ _ _ _ _ _ _
      refine a_step (i := 10) (is := []) (by kernel_rfl) ⟨?_, trivial⟩
      refine ⟨_, rfl, ?_⟩
      refine salloc hS Try.zeroValue3 rfl ?_; clear hS; intro b5 w hS
      refine nil ?_
      refine ⟨fun _ => hS.sub (.cons _ (List.Sublist.refl _)), ?_⟩
      show wpA _ _ _ _ _ _ _ _ _ _
      refine a_step (i := 11) (is := []) (by kernel_rfl) ⟨?_, trivial⟩
      refine ⟨_, rfl, ?_⟩
      refine sst hS rfl rfl Try.sizeOf3 rfl rfl rfl rfl ?_; clear hS; intro w hS
      refine nil ?_
      refine ⟨fun h => absurd h (by decide), ?_⟩
      show wpA _ _ _ _ _ _ _ _ _ _
      refine a_end (by kernel_rfl) ?_
      show Code.wp _ _ _ _ _
      refine seq ?_
      refine region ?_
      refine sv (yFn (.cons rfl (.cons rfl .nil))) ?_
      refine sv (yAsg rfl) ?_
      refine nil ?_
      show Code.wp _ _ _ _ _
      refine wp_ret ?_
      refine retQ (res1 rfl rfl) ?_
      exact ⟨b5, b2, rfl, hS⟩
    ·
      refine ⟨_, rfl, ?_⟩
      refine salloc hS Try.zeroValue3 rfl ?_; clear hS; intro b5 w hS
      refine nil ?_
      refine ⟨fun _ => hS.sub (.cons _ (List.Sublist.refl _)), ?_⟩
      show wpA _ _ _ _ _ _ _ _ _ _
      refine a_step (i := 9) (is := []) (by kernel_rfl) ⟨?_, trivial⟩
      refine ⟨_, rfl, ?_⟩
      refine sv (yRemP rfl rfl (by omega) (by omega)) ?_
      refine nil ?_
      refine ⟨fun _ => hS.sub (.cons _ (List.Sublist.refl _)), ?_⟩
      show wpA _ _ _ _ _ _ _ _ _ _
      refine a_step (i := 11) (is := []) (by kernel_rfl) ⟨?_, trivial⟩
      refine ⟨_, rfl, ?_⟩
      refine sst hS rfl rfl Try.sizeOf3 rfl rfl rfl rfl ?_; clear hS; intro w hS
      refine nil ?_
      refine ⟨fun h => absurd h (by decide), ?_⟩
      show wpA _ _ _ _ _ _ _ _ _ _
      refine a_end (by kernel_rfl) ?_
      show Code.wp _ _ _ _ _
      refine seq ?_
      refine region ?_
      refine sv (yFn (.cons rfl (.cons rfl .nil))) ?_
      refine sv (yAsg rfl) ?_
      refine nil ?_
      show Code.wp _ _ _ _ _
      refine wp_ret ?_
      refine retQ (res1 rfl rfl) ?_
      exact ⟨b5, b2, rfl, hS⟩
  ·
    refine ⟨_, rfl, ?_⟩
    refine salloc hS Try.zeroValue3 rfl ?_; clear hS; intro b5 w hS
    refine nil ?_
    refine ⟨fun _ => hS.sub (.cons _ (List.Sublist.refl _)), ?_⟩
    show wpA _ _ _ _ _ _ _ _ _ _
    refine a_step (i := 8) (is := []) (by kernel_rfl) ⟨?_, trivial⟩
    refine ⟨_, rfl, ?_⟩
    refine scall Try.call61 (.cons rfl .nil) (c_cycle ⟨by omega, by omega⟩) ?_
    rintro _ w ⟨rfl, hE⟩; replace hS := hS.step hE; clear hE
    refine nil ?_
    refine ⟨fun _ => hS.sub (.cons _ (List.Sublist.refl _)), ?_⟩
    show wpA _ _ _ _ _ _ _ _ _ _
    refine a_step (i := 9) (is := []) (by kernel_rfl) ⟨?_, trivial⟩
    refine ⟨_, rfl, ?_⟩
    refine sv (yRemP rfl rfl (by omega) (by omega)) ?_
    refine nil ?_
    refine ⟨fun _ => hS.sub (.cons _ (List.Sublist.refl _)), ?_⟩
    show wpA _ _ _ _ _ _ _ _ _ _
    refine a_step (i := 11) (is := []) (by kernel_rfl) ⟨?_, trivial⟩
    refine ⟨_, rfl, ?_⟩
    refine sst hS rfl rfl Try.sizeOf3 rfl rfl rfl rfl ?_; clear hS; intro w hS
    refine nil ?_
    refine ⟨fun h => absurd h (by decide), ?_⟩
    show wpA _ _ _ _ _ _ _ _ _ _
    refine a_end (by kernel_rfl) ?_
    show Code.wp _ _ _ _ _
    refine seq ?_
    refine region ?_
    refine sv (yFn (.cons rfl (.cons rfl .nil))) ?_
    refine sv (yAsg rfl) ?_
    refine nil ?_
    show Code.wp _ _ _ _ _
    refine wp_ret ?_
    refine retQ (res1 rfl rfl) ?_
    exact ⟨b5, b2, rfl, hS⟩
set_option maxHeartbeats 2000000 in
/-- barrage/tide.levels -/
theorem c_levels {t : Table} {cv : Value} {from_ : Int} {n : Nat} {w0 : World} (hsl : Sl w0 6 RConst cv t.consts) (hok : TableOk t) (hf : Bd from_ 0 200000) (hn : n ≤ 400) : CE Try.prog 71 #[.agg [.int .i64 t.mean, cv].toArray, .int .i64 from_, .int .i64 (n : Int)] w0 (fun v w' => St w0 w' [rowI v 38 2 n (((List.range n).map fun (i : Nat) => lvlT t (from_ + i)).flatMap spanC)]) := by
  obtain ⟨a, cap, rfl, hcap, hmx, hel⟩ := hsl
  have hmean := hok.mean
  have hlen12 := hok.len
  refine enter Try.func71 rfl Try.ntmps71 rfl ?_
  have hS := St.start w0
  refine seq ?_
  refine region ?_
  refine sbox hS rfl rfl ?_; clear hS; intro b3 w hS
  refine sv (yAsg rfl) ?_
  refine nil ?_
  show Code.wp _ _ _ _ _
  refine seq ?_
  refine region ?_
  refine sv (yMove rfl) ?_
  refine smake (bytes := 16) (zs := [.int .i64 0, .int .i64 0]) (m := n) hS rfl rfl Try.underlying136 ti127 rfl rfl rfl rfl rfl (by omega) (by omega) ?_; clear hS; intro b17 w hS
  rw [rep_flat] at hS
  refine sv (yAsg rfl) ?_
  refine nil ?_
  show Code.wp _ _ _ _ _
  refine seq ?_
  refine seq ?_
  refine region ?_
  refine sv (yMove rfl) ?_
  refine sv (yLen rfl Try.underlying136) ?_
  refine sv (yMove rfl) ?_
  refine nil ?_
  show Code.wp _ _ _ _ _
  refine block ?_
  refine loop (fun f w zz => ∃ (k : Nat) (l : List Span), f 1 = .int .i64 from_ ∧ f 3 = .pointer (some ⟨b3, 0, none⟩) ∧ f 7 = .slice (some ⟨b17, 0, none⟩) n n ∧ f 19 = .int .i64 (n : Int) ∧ f 20 = .int .i64 (k : Int) ∧ StX [] w0 w [blk b17 (l.flatMap spanC) 127, blk b3 [.int .i64 t.mean, .slice a t.consts.length cap] 24] ∧ (k ≤ n) ∧ (l.length = n) ∧ (∀ i, i < n → l[i]? = some (if i < k then ⟨t.mean, t.mean⟩ else ⟨0, 0⟩)) ∧ zz = n - k) _ ⟨_, rfl, 0, _, rfl, rfl, rfl, rfl, rfl, hS, (Nat.zero_le _), (List.length_replicate), (fun i hi => by simp [hi]), rfl⟩ ?_
  clear hS
  rintro f w _ ⟨k, l, h1, h3, h7, h19, h20, hS, hk, hll, hrow, rfl⟩
  refine seq ?_
  refine region ?_
  refine sv (yLss h20 h19) ?_
  refine nil ?_
  show Code.wp _ _ _ _ _
  refine seq ?_
  refine cond rfl (fun c21 => ?_) (fun c21 => ?_)
  ·
    simp only [Bool.and_eq_true, Bool.or_eq_true, Bool.and_eq_false_iff, Bool.or_eq_false_iff, decide_eq_true_eq, decide_eq_false_iff_not, Bool.not_eq_true, Bool.not_eq_false, Bool.not_not, Bool.not_eq_eq_eq_not, Bool.not_true, Bool.not_false, Bool.false_eq_true, Bool.true_eq_false, ne_eq, Decidable.not_not, not_false_eq_true, not_true_eq_false] at c21
    refine skip ?_
    show Code.wp _ _ _ _ _
    refine seq ?_
    refine block ?_
    refine seq ?_
    refine region ?_
    refine sv (yMove h20) ?_
    refine sv (yAsg rfl) ?_
    refine nil ?_
    show Code.wp _ _ _ _ _
    refine region_tail mixed 8 (by kernel_rfl) hS ?_
    have hrow_k := hrow k (by omega)
    rw [if_neg (Nat.lt_irrefl k)] at hrow_k
    refine qv (fun w hS => (yMove h7)) ?_
    refine qv (fun w hS => (yMove rfl)) ?_
    refine qv (fun w hS => (yIx0 rfl rfl Try.runUnderlying136 Try.sizeOf127 (by omega))) ?_
    refine qv (fun w hS => (fa24_0 h3)) ?_
    refine qv (fun w hS => (yLdB rfl Try.isAgg3 (hS.at _) rfl)) ?_
    refine qv (fun w hS => (fa24_0 h3)) ?_
    refine qv (fun w hS => (yLdB rfl Try.isAgg3 (hS.at _) rfl)) ?_
    refine qv (fun w hS => (yBuild Try.zeroValue38 rfl pl38 (.cons rfl rfl (.cons rfl rfl .nil)) rfl)) ?_
    clear hS; refine qtl (fun w hS => ?_)
    refine scall Try.call101 (.cons rfl (.cons rfl .nil)) (c_add (o := k * 2) (lo := 0) (hi := 0) (x := ⟨t.mean, t.mean⟩) (blk0 (hS.at b17)) (flat2 spanC_len hrow_k 0 rfl) (flat2 spanC_len hrow_k 1 rfl) ⟨by simp only []; omega, by simp only []; omega⟩ ⟨by simp only []; omega, by simp only []; omega⟩) ?_; rintro _ w ⟨rfl, hput⟩; replace hS := hS.put hput; clear hput; simp only [Int.zero_add] at hS
    refine nil ?_
    show Code.wp _ _ _ _ _
    refine region ?_
    refine sv (yAdd h20 rfl ⟨by omega, by omega⟩) ?_
    refine sv (yMove rfl) ?_
    refine nil ?_
    exact ⟨_, _, rfl, ⟨k + 1, l.set k ⟨t.mean, t.mean⟩, h1, h3, h7, h19, rfl, (by rw [← splice_enc spanC_len l k _ (by omega)]; exact hS), (by omega), (by simpa using hll), (set_get (A := fun _ => ⟨t.mean, t.mean⟩) (B := fun _ => ⟨0, 0⟩) hll (by omega) rfl hrow), rfl⟩, by omega⟩
  ·
    simp only [Bool.and_eq_true, Bool.or_eq_true, Bool.and_eq_false_iff, Bool.or_eq_false_iff, decide_eq_true_eq, decide_eq_false_iff_not, Bool.not_eq_true, Bool.not_eq_false, Bool.not_not, Bool.not_eq_eq_eq_not, Bool.not_true, Bool.not_false, Bool.false_eq_true, Bool.true_eq_false, ne_eq, Decidable.not_not, not_false_eq_true, not_true_eq_false] at c21
    refine exit ?_
    show Code.wp _ _ _ _ _
    refine seq ?_
    refine seq ?_
    refine region ?_
    refine sv (fa24_1 h3) ?_
    refine sv (yLdB rfl Try.isAgg22 (hS.at _) rfl) ?_
    refine sv (yLen rfl Try.underlying22) ?_
    refine sv (yMove rfl) ?_
    refine nil ?_
    show Code.wp _ _ _ _ _
    refine block ?_
    obtain rfl : n = k := by omega
    refine loop (fun f w zz => ∃ (k : Nat) (l : List Span), f 1 = .int .i64 from_ ∧ f 7 = .slice (some ⟨b17, 0, none⟩) n n ∧ f 34 = .slice a t.consts.length cap ∧ f 35 = .int .i64 (t.consts.length : Int) ∧ f 36 = .int .i64 (k : Int) ∧ StX [] w0 w [blk b17 (l.flatMap spanC) 127] ∧ (k ≤ t.consts.length) ∧ (l.length = n) ∧ (∀ i, i < n → l[i]? = some (lvl t.mean (t.consts.take k) (from_ + i))) ∧ zz = t.consts.length - k) _ ⟨_, rfl, 0, _, h1, h7, rfl, rfl, rfl, (hS.sub (.cons_cons _ (List.nil_sublist _))), (Nat.zero_le _), (hll), (fun i hi => by rw [hrow i hi, if_pos hi]; rfl), rfl⟩ ?_
    clear hS
    rintro f w _ ⟨k, l, h1, h7, h34, h35, h36, hS, hk, hll, hrow, rfl⟩
    refine seq ?_
    refine region ?_
    refine sv (yLss h36 h35) ?_
    refine nil ?_
    show Code.wp _ _ _ _ _
    refine seq ?_
    refine cond rfl (fun c37 => ?_) (fun c37 => ?_)
    ·
      simp only [Bool.and_eq_true, Bool.or_eq_true, Bool.and_eq_false_iff, Bool.or_eq_false_iff, decide_eq_true_eq, decide_eq_false_iff_not, Bool.not_eq_true, Bool.not_eq_false, Bool.not_not, Bool.not_eq_eq_eq_not, Bool.not_true, Bool.not_false, Bool.false_eq_true, Bool.true_eq_false, ne_eq, Decidable.not_not, not_false_eq_true, not_true_eq_false] at c37
      refine skip ?_
      show Code.wp _ _ _ _ _
      refine seq ?_
      refine block ?_
      refine seq ?_
      refine region ?_
      obtain ⟨c, hx, hd⟩ := drop_of (l := t.consts) (k := k) (by omega)
      have hcok : ConstOk c := hok.consts c (List.mem_of_getElem? hx)
      obtain ⟨b, o, cs, ha, hlen, hcs, hR⟩ := hel k (by omega)
      obtain rfl : c = t.consts[k] := (List.getElem?_eq_some_iff.1 hx).2.symm
      generalize t.consts[k] = c at hx hd hR hcok
      obtain ⟨hv, rfl, hn1, hsl1, _, _, _, _⟩ := hR
      obtain ⟨a1, cap1, rfl, hq1, hq2, hq3⟩ := id hsl1
      refine sv (yIxa h34 ha h36 Try.runUnderlying22 Try.sizeOf46 (by omega) (by omega)) ?_
      refine sv (yLdA rfl Try.isAgg46 Try.sizeOf46 (hcs.ext hS.ext) rfl) ?_
      refine salloc hS Try.zeroValue46 rfl ?_; clear hS; intro b10 w hS
      refine sst hS rfl rfl Try.sizeOf46 rfl rfl rfl rfl ?_; clear hS; intro w hS
      refine nil ?_
      show Code.wp _ _ _ _ _
      refine seq ?_
      refine region ?_
      refine sv (yLdBA rfl Try.isAgg46 Try.sizeOf46 (hS.at _) rfl rfl) ?_
      refine sv (yMove h1) ?_
      refine scall Try.call102 (.cons rfl (.cons rfl .nil)) (c_parts hcok ⟨by omega, by omega⟩) ?_
      rintro _ w ⟨bp, bc, rfl, hM⟩; replace hS := hS.call hM; clear hM
      refine sv (yAsg rfl) ?_
      refine nil ?_
      show Code.wp _ _ _ _ _
      refine seq ?_
      refine region ?_
      refine sv (yMove h7) ?_
      refine sv (yLen rfl Try.underlying136) ?_
      refine sv (yMove rfl) ?_
      refine nil ?_
      show Code.wp _ _ _ _ _
      refine block ?_
      refine loop (fun f w zz => ∃ (j : Nat) (l : List Span), f 1 = .int .i64 from_ ∧ f 7 = .slice (some ⟨b17, 0, none⟩) n n ∧ f 11 = .func (.func 114) #[] [.pointer (some ⟨bp, 0, none⟩), .pointer (some ⟨bc, 0, none⟩)].toArray ∧ f 34 = .slice a t.consts.length cap ∧ f 35 = .int .i64 (t.consts.length : Int) ∧ f 36 = .int .i64 (k : Int) ∧ f 44 = .int .i64 (n : Int) ∧ f 45 = .int .i64 (j : Int) ∧ StX [] w0 w [blk bp [.int .i64 (pAt c (from_ + j))] 3, blk bc [.string c.name, .slice a1 c.heights.length cap1, .int .i64 c.off, .int .i64 c.step, .int .i64 c.den, .int .i64 c.slack] 46, blk b17 (l.flatMap spanC) 127] ∧ (j ≤ n) ∧ (l.length = n) ∧ (∀ i, i < n → l[i]? = some (if i < j then lvl t.mean (t.consts.take (k + 1)) (from_ + i) else lvl t.mean (t.consts.take k) (from_ + i))) ∧ zz = n - j) _ ⟨_, rfl, 0, _, h1, h7, rfl, h34, h35, h36, rfl, rfl, (by rw [show from_ + ((0 : Nat) : Int) = from_ from Int.add_zero _]; exact hS.sub (.cons_cons _ (.cons_cons _ (.cons _ (List.Sublist.refl _))))), (Nat.zero_le _), (hll), (fun i hi => by rw [hrow i hi]; simp), rfl⟩ ?_
      clear hS
      rintro f w _ ⟨j, l, h1, h7, h11, h34, h35, h36, h44, h45, hS, hj, hll, hrow, rfl⟩
      refine seq ?_
      refine region ?_
      refine sv (yLss h45 h44) ?_
      refine nil ?_
      show Code.wp _ _ _ _ _
      refine seq ?_
      refine cond rfl (fun c46 => ?_) (fun c46 => ?_)
      ·
        simp only [Bool.and_eq_true, Bool.or_eq_true, Bool.and_eq_false_iff, Bool.or_eq_false_iff, decide_eq_true_eq, decide_eq_false_iff_not, Bool.not_eq_true, Bool.not_eq_false, Bool.not_not, Bool.not_eq_eq_eq_not, Bool.not_true, Bool.not_false, Bool.false_eq_true, Bool.true_eq_false, ne_eq, Decidable.not_not, not_false_eq_true, not_true_eq_false] at c46
        refine skip ?_
        show Code.wp _ _ _ _ _
        refine seq ?_
        refine block ?_
        refine seq ?_
        refine region ?_
        refine sv (yMove h45) ?_
        refine sv (yAsg rfl) ?_
        refine nil ?_
        show Code.wp _ _ _ _ _
        refine region_any (C := (fun _ => True)) mixed 4 6 (by kernel_rfl) (fun c a a' w h => by obtain ⟨_, v, hv, _⟩ := h; cases hv) hS (fun _ _ => trivial) ?_
        clear hS; intro w hS
        have hrow_k := hrow j (by omega)
        rw [if_neg (Nat.lt_irrefl j)] at hrow_k
        have hlb := lvl_bd hmean (t.consts.take k) (from_ + j) (fun x hx => hok.consts x (List.mem_of_mem_take hx))
        have htl : (t.consts.take k).length ≤ 12 := by simp; omega
        have hpb := partP_bd hcok (pAt_bd hcok (from_ + j))
        refine hv (fun w hS => (yMove h7)) ?_
        refine hv (fun w hS => (yMove rfl)) ?_
        refine hv (fun w hS => (yIx0 rfl rfl Try.runUnderlying136 Try.sizeOf127 (by omega))) ?_
        refine hv (fun w hS => (yMove h11)) ?_
        refine hnil ?_
        show wpA _ _ _ _ _ _ _ _ _ _
        refine a_step (i := 4) (is := []) (by kernel_rfl) ⟨?_, trivial⟩
        refine ⟨_, rfl, ?_⟩
        refine scallf rfl Try.call114 .nil (c_parts1 (hS.at bp) (hS.at bc) (hS.ne2 (by simp [fps, cellI])) hcok (pAt_bd hcok _) hS.ext (hS.owned (by simp [fps, cellI])) hsl1) ?_; rintro _ w ⟨rfl, hput⟩; replace hS := hS.put hput; clear hput
        refine nil ?_
        refine ⟨fun _ => trivial, ?_⟩
        show wpA _ _ _ _ _ _ _ _ _ _
        refine a_step (i := 5) (is := []) (by kernel_rfl) ⟨?_, trivial⟩
        refine ⟨_, rfl, ?_⟩
        refine scall Try.call101 (.cons rfl (.cons rfl .nil)) (c_add (o := j * 2) (x := partP c (pAt c (from_ + j))) (blk0 (hS.at b17)) (flat2 spanC_len hrow_k 0 rfl) (flat2 spanC_len hrow_k 1 rfl) ⟨by omega, by omega⟩ ⟨by omega, by omega⟩) ?_; rintro _ w ⟨rfl, hput⟩; replace hS := hS.put hput; clear hput
        refine nil ?_
        refine ⟨fun _ => trivial, ?_⟩
        show wpA _ _ _ _ _ _ _ _ _ _
        refine a_end (by kernel_rfl) ?_
        show Code.wp _ _ _ _ _
        refine region ?_
        refine sv (yAdd h45 rfl ⟨by omega, by omega⟩) ?_
        refine sv (yMove rfl) ?_
        refine nil ?_
        exact ⟨_, _, rfl, ⟨j + 1, l.set j (addS (lvl t.mean (t.consts.take k) (from_ + j)) (partP c (pAt c (from_ + j)))), h1, h7, h11, h34, h35, h36, h44, rfl, (by rw [← splice_enc spanC_len l j _ (by omega), show from_ + ((j + 1 : Nat) : Int) = from_ + j + 1 by omega, ← pAt_succ]; exact hS), (by omega), (by simpa using hll), (set_get (A := fun (i : Nat) => lvl t.mean (t.consts.take (k + 1)) (from_ + i)) (B := fun (i : Nat) => lvl t.mean (t.consts.take k) (from_ + i)) hll (by omega) (lvl_take hx t.mean (from_ + j)).symm hrow), rfl⟩, by omega⟩
      ·
        simp only [Bool.and_eq_true, Bool.or_eq_true, Bool.and_eq_false_iff, Bool.or_eq_false_iff, decide_eq_true_eq, decide_eq_false_iff_not, Bool.not_eq_true, Bool.not_eq_false, Bool.not_not, Bool.not_eq_eq_eq_not, Bool.not_true, Bool.not_false, Bool.false_eq_true, Bool.true_eq_false, ne_eq, Decidable.not_not, not_false_eq_true, not_true_eq_false] at c46
        refine exit ?_
        show Code.wp _ _ _ _ _
        refine region ?_
        refine sv (yAdd h36 rfl ⟨by omega, by omega⟩) ?_
        refine sv (yMove rfl) ?_
        refine nil ?_
        obtain rfl : n = j := by omega
        exact ⟨_, _, rfl, ⟨k + 1, _, h1, h7, h34, h35, rfl, (hS.sub (.cons _ (.cons _ (.cons_cons _ (List.nil_sublist _))))), (by omega), (hll), (fun i hi => by rw [hrow i hi, if_pos hi]), rfl⟩, by omega⟩
    ·
      simp only [Bool.and_eq_true, Bool.or_eq_true, Bool.and_eq_false_iff, Bool.or_eq_false_iff, decide_eq_true_eq, decide_eq_false_iff_not, Bool.not_eq_true, Bool.not_eq_false, Bool.not_not, Bool.not_eq_eq_eq_not, Bool.not_true, Bool.not_false, Bool.false_eq_true, Bool.true_eq_false, ne_eq, Decidable.not_not, not_false_eq_true, not_true_eq_false] at c37
      refine exit ?_
      show Code.wp _ _ _ _ _
      refine seq ?_
      refine region ?_
      refine sv (yAsg rfl) ?_
      refine nil ?_
      show Code.wp _ _ _ _ _
      refine seq ?_
      refine seq ?_
      refine region ?_
      refine sv (yMove h7) ?_
      refine sv (yLen rfl Try.underlying136) ?_
      refine sv (yMove rfl) ?_
      refine nil ?_
      show Code.wp _ _ _ _ _
      refine block ?_
      obtain rfl : k = t.consts.length := by omega
      refine loop (fun f w zz => ∃ (j : Nat) (v : Value), f 13 = v ∧ f 56 = .slice (some ⟨b17, 0, none⟩) n n ∧ f 57 = .int .i64 (n : Int) ∧ f 58 = .int .i64 (j : Int) ∧ StX [] w0 w [rowI v 38 2 j (((List.range j).map fun (i : Nat) => lvlT t (from_ + i)).flatMap spanC), blk b17 (l.flatMap spanC) 127] ∧ (j ≤ n) ∧ (l.length = n) ∧ (∀ i, i < n → l[i]? = some (lvlT t (from_ + i))) ∧ zz = n - j) _ ⟨_, rfl, 0, _, rfl, rfl, rfl, rfl, (hS.nilrow 38 2), (Nat.zero_le _), (hll), (fun i hi => by rw [hrow i hi, List.take_length]; rfl), rfl⟩ ?_
      clear hS
      rintro f w _ ⟨j, v, h13, h56, h57, h58, hS, hj, hll, hrow, rfl⟩
      refine seq ?_
      refine region ?_
      refine sv (yLss h58 h57) ?_
      refine nil ?_
      show Code.wp _ _ _ _ _
      refine seq ?_
      refine cond rfl (fun c59 => ?_) (fun c59 => ?_)
      ·
        simp only [Bool.and_eq_true, Bool.or_eq_true, Bool.and_eq_false_iff, Bool.or_eq_false_iff, decide_eq_true_eq, decide_eq_false_iff_not, Bool.not_eq_true, Bool.not_eq_false, Bool.not_not, Bool.not_eq_eq_eq_not, Bool.not_true, Bool.not_false, Bool.false_eq_true, Bool.true_eq_false, ne_eq, Decidable.not_not, not_false_eq_true, not_true_eq_false] at c59
        refine skip ?_
        show Code.wp _ _ _ _ _
        refine seq ?_
        refine block ?_
        refine seq ?_
        refine region ?_
        have hrow_j := hrow j (by omega)
        refine sv (yIx0 h56 h58 Try.runUnderlying136 Try.sizeOf127 (by omega)) ?_
        refine sv (yLdA rfl Try.isAgg127 Try.sizeOf127 (flat_cells0 spanC_len (blk_cells (hS.at b17)) hrow_j) rfl) ?_
        refine salloc hS Try.zeroValue127 rfl ?_; clear hS; intro b15 w hS
        refine sst hS rfl rfl Try.sizeOf127 rfl rfl rfl rfl ?_; clear hS; intro w hS
        refine nil ?_
        show Code.wp _ _ _ _ _
        refine region ?_
        refine sv (yMove h13) ?_
        refine sv (fa127_0 rfl) ?_
        refine sv (yLdBA rfl Try.isAgg38 Try.sizeOf38 (hS.at _) rfl rfl) ?_
        refine sbslice hS Try.underlying61 Try.sizeOf38 rfl Try.zeroValue38 rfl (.cons rfl rfl .nil) rfl ?_; clear hS; intro b65 w hS
        refine sapp (bytes := 16) (size := 2) (v := v) (m := 1) hS rfl rfl Try.underlying61 ti38 rfl rfl rfl rfl (by decide) (blk_cells (hS.at _)) rfl rfl (by omega) (by omega) ?_; clear hS; intro v66 w hS
        refine sv (yAsg rfl) ?_
        refine nil ?_
        show Code.wp _ _ _ _ _
        refine region ?_
        refine sv (yAdd h58 rfl ⟨by omega, by omega⟩) ?_
        refine sv (yMove rfl) ?_
        refine nil ?_
        exact ⟨_, _, rfl, ⟨j + 1, _, rfl, h56, h57, rfl, (by rw [List.range_succ, List.map_append, List.flatMap_append]; exact hS.sub (.cons _ (.cons _ (List.Sublist.refl _)))), (by omega), (hll), (hrow), rfl⟩, by omega⟩
      ·
        simp only [Bool.and_eq_true, Bool.or_eq_true, Bool.and_eq_false_iff, Bool.or_eq_false_iff, decide_eq_true_eq, decide_eq_false_iff_not, Bool.not_eq_true, Bool.not_eq_false, Bool.not_not, Bool.not_eq_eq_eq_not, Bool.not_true, Bool.not_false, Bool.false_eq_true, Bool.true_eq_false, ne_eq, Decidable.not_not, not_false_eq_true, not_true_eq_false] at c59
        refine exit ?_
        show Code.wp _ _ _ _ _
        refine seq ?_
        refine region ?_
        refine sv (yMove h13) ?_
        refine sv (yAsg rfl) ?_
        refine nil ?_
        show Code.wp _ _ _ _ _
        obtain rfl : n = j := by omega
        refine wp_ret ?_
        refine retQ (res1 rfl rfl) ?_
        show St w0 w [rowI v 38 2 n _]; exact hS.one _
/-- barrage/tide.ticks closure 1 -/
theorem c_ticks1 {h : Int} {w0 : World} : CV Try.prog 98 #[.int .i64 h] w0 (.bool (outB h 0 200000)) := by
  refine enter Try.func98 rfl Try.ntmps98 rfl ?_
  have hS := St.start w0
  refine seq ?_
  refine region ?_
  refine sv (yAsg rfl) ?_
  refine nil ?_
  show Code.wp _ _ _ _ _
  refine seq ?_
  refine region ?_
  refine sv (yMove rfl) ?_
  refine scall Try.call54 (.cons rfl (.cons rfl (.cons rfl .nil))) c_out ?_
  rintro _ w ⟨rfl, hE⟩; replace hS := hS.step hE; clear hE
  refine sv (yAsg rfl) ?_
  refine nil ?_
  show Code.wp _ _ _ _ _
  refine wp_ret ?_
  exact retV (res1 rfl rfl) hS.ext
/-- barrage/tide.ticks -/
theorem c_ticks {l : List Int} {v : Value} {w0 : World} (hsl : Sl w0 1 RInt v l) : CV Try.prog 68 #[v] w0 (.int .i64 (ticksE l)) := by
  refine enter Try.func68 rfl Try.ntmps68 rfl ?_
  have hS := St.start w0
  refine seq ?_
  refine region ?_
  refine sv (yAsg rfl) ?_
  refine nil ?_
  show Code.wp _ _ _ _ _
  refine seq ?_
  refine seq ?_
  refine region ?_
  refine sv (yMove rfl) ?_
  refine scall Try.call62 (.cons rfl (.cons rfl .nil)) (c_ContainsFuncInt (cl := []) (hsl.ext RInt.stays hS.ext) Try.call98 (fun x cs w _ _ _ => c_ticks1)) ?_
  rintro _ w ⟨rfl, hE⟩; replace hS := hS.step hE; clear hE
  refine nil ?_
  show Code.wp _ _ _ _ _
  refine cond rfl (fun c4 => ?_) (fun c4 => ?_)
  ·
    refine seq ?_
    refine region ?_
    refine sv (yAsg rfl) ?_
    refine nil ?_
    show Code.wp _ _ _ _ _
    refine wp_ret (thenR ?_)
    exact retV (res1 rfl (eqI (by unfold ticksE; rw [if_pos c4]))) hS.ext
  ·
    refine skip ?_
    show Code.wp _ _ _ _ _
    refine seq ?_
    refine region ?_
    refine sv (yAsg rfl) ?_
    refine nil ?_
    show Code.wp _ _ _ _ _
    refine wp_ret ?_
    exact retV (res1 rfl (eqI (by unfold ticksE; rw [if_neg (by rw [c4]; decide)]))) hS.ext
/-- barrage/tide.Level -/
theorem c_Level {t : Table} {cs : List Value} {tick : Int} {w0 : World} (ht : RTable w0 cs t) (hti : I64 tick) : CV Try.prog 28 #[.agg cs.toArray, .int .i64 tick] w0 (.tuple #[.agg (spanC (levelF t tick).1).toArray, .int .i64 (levelF t tick).2]) := by
  obtain ⟨cv, rfl, hmean, hsl⟩ := id ht
  refine enter Try.func28 rfl Try.ntmps28 rfl ?_
  have hS := St.start w0
  refine seq ?_
  refine region ?_
  refine sbox hS rfl rfl ?_; clear hS; intro b2 w hS
  refine salloc hS Try.zeroValue38 rfl ?_; clear hS; intro b4 w hS
  refine sv (yAsg rfl) ?_
  refine nil ?_
  show Code.wp _ _ _ _ _
  refine seq ?_
  refine region ?_
  refine sv (yLdBA rfl Try.isAgg24 Try.sizeOf24 (hS.at _) rfl rfl) ?_
  refine scall Try.call19 (.cons rfl .nil) (c_Check (ht.ext hS.ext)) ?_
  rintro _ w ⟨rfl, hE⟩; replace hS := hS.step hE; clear hE
  refine sv (yMove rfl) ?_
  refine sv (yExt rfl rfl) ?_
  refine sv (yExt rfl rfl) ?_
  refine sv (yAsg rfl) ?_
  refine sv (yAsg rfl) ?_
  refine nil ?_
  show Code.wp _ _ _ _ _
  refine seq ?_
  refine seq ?_
  refine region ?_
  refine sv (yMove rfl) ?_
  refine sv (yEql rfl rfl) ?_
  refine nil ?_
  show Code.wp _ _ _ _ _
  refine cond rfl (fun c14 => ?_) (fun c14 => ?_)
  ·
    simp only [Bool.and_eq_true, Bool.or_eq_true, Bool.and_eq_false_iff, Bool.or_eq_false_iff, decide_eq_true_eq, decide_eq_false_iff_not, Bool.not_eq_true, Bool.not_eq_false, Bool.not_not, Bool.not_eq_eq_eq_not, Bool.not_true, Bool.not_false, Bool.false_eq_true, Bool.true_eq_false, ne_eq, Decidable.not_not, not_false_eq_true, not_true_eq_false] at c14
    have hok := tableOk_of c14
    refine region ?_
    refine sv (yMove rfl) ?_
    refine sbslice hS Try.underlying44 Try.sizeOf3 rfl Try.zeroValue3 rfl (.cons rfl rfl .nil) rfl ?_; clear hS; intro b16 w hS
    refine scall Try.call68 (.cons rfl .nil) (c_ticks (l := [tick]) (ints_sl (b := b16) (l := [tick]) (hS.at b16) (by simpa using hti) (Nat.le_of_ble_eq_true rfl))) ?_
    rintro _ w ⟨rfl, hE⟩; replace hS := hS.step hE; clear hE
    refine sv (yAsg rfl) ?_
    refine nil ?_
    show Code.wp _ _ _ _ _
    refine seq ?_
    refine seq ?_
    refine region ?_
    refine sv (yMove rfl) ?_
    refine sv (yNeq rfl rfl) ?_
    refine nil ?_
    show Code.wp _ _ _ _ _
    refine cond rfl (fun c19 => ?_) (fun c19 => ?_)
    ·
      simp only [Bool.and_eq_true, Bool.or_eq_true, Bool.and_eq_false_iff, Bool.or_eq_false_iff, decide_eq_true_eq, decide_eq_false_iff_not, Bool.not_eq_true, Bool.not_eq_false, Bool.not_not, Bool.not_eq_eq_eq_not, Bool.not_true, Bool.not_false, Bool.false_eq_true, Bool.true_eq_false, ne_eq, Decidable.not_not, not_false_eq_true, not_true_eq_false] at c19
      refine seq ?_
      refine region ?_
      refine sv (yBuild Try.zeroValue38 rfl pl38 .nil rfl) ?_
      refine sv (yMove rfl) ?_
      refine sst hS rfl rfl Try.sizeOf38 rfl rfl rfl rfl ?_; clear hS; intro w hS
      refine sv (yAsg rfl) ?_
      refine nil ?_
      show Code.wp _ _ _ _ _
      have hfin : levelF t tick = (⟨0, 0⟩, ticksE [tick]) := by unfold levelF; rw [if_neg (fun h => h c14), if_pos c19]
      refine wp_ret (thenR ?_)
      exact retV (resV2 rfl (rc rfl Try.isAgg38 Try.sizeOf38 (hS.at _) (by rw [hfin]; rfl) rfl) (rt (eqI (by rw [hfin])))) hS.ext
    ·
      simp only [Bool.and_eq_true, Bool.or_eq_true, Bool.and_eq_false_iff, Bool.or_eq_false_iff, decide_eq_true_eq, decide_eq_false_iff_not, Bool.not_eq_true, Bool.not_eq_false, Bool.not_not, Bool.not_eq_eq_eq_not, Bool.not_true, Bool.not_false, Bool.false_eq_true, Bool.true_eq_false, ne_eq, Decidable.not_not, not_false_eq_true, not_true_eq_false] at c19
      have htk := ticks1 c19
      have hfin : levelF t tick = (lvlT t tick, 0) := by unfold levelF; rw [if_neg (fun h => h c14), if_neg (fun h => h c19)]
      refine skip ?_
      show Code.wp _ _ _ _ _
      refine seq ?_
      refine region ?_
      refine sv (yLdBA rfl Try.isAgg24 Try.sizeOf24 (hS.at _) rfl rfl) ?_
      refine sv (yMove rfl) ?_
      refine scall Try.call71 (.cons rfl (.cons rfl (.cons rfl .nil))) (c_levels (n := 1) (hsl.ext RConst.stays hS.ext) hok htk (by omega)) ?_
      rintro v w hM; replace hS := hS.call1 hM; clear hM; obtain ⟨g, cap, rfl, _, _, hcl⟩ := row_some (hS.row v) (by decide); rw [lvl1] at hcl
      refine sv (yIx rfl rfl Try.runUnderlying61 Try.sizeOf38 (by omega) (by omega)) ?_
      refine sv (yLdA rfl Try.isAgg38 Try.sizeOf38 hcl rfl) ?_
      refine sst hS rfl rfl Try.sizeOf38 rfl rfl rfl rfl ?_; clear hS; intro w hS
      refine sv (yAsg rfl) ?_
      refine nil ?_
      show Code.wp _ _ _ _ _
      refine wp_ret ?_
      exact retV (resV2 rfl (rc rfl Try.isAgg38 Try.sizeOf38 (hS.at _) (by rw [hfin]; rfl) rfl) (rt (eqI (by rw [hfin])))) hS.ext
  ·
    simp only [Bool.and_eq_true, Bool.or_eq_true, Bool.and_eq_false_iff, Bool.or_eq_false_iff, decide_eq_true_eq, decide_eq_false_iff_not, Bool.not_eq_true, Bool.not_eq_false, Bool.not_not, Bool.not_eq_eq_eq_not, Bool.not_true, Bool.not_false, Bool.false_eq_true, Bool.true_eq_false, ne_eq, Decidable.not_not, not_false_eq_true, not_true_eq_false] at c14
    refine skip ?_
    show Code.wp _ _ _ _ _
    refine seq ?_
    refine seq ?_
    refine region ?_
    refine sv (yMove rfl) ?_
    refine sv (yNeq rfl rfl) ?_
    refine nil ?_
    show Code.wp _ _ _ _ _
    refine cond rfl (fun c19 => ?_) (fun c19 => ?_)
    ·
      simp only [Bool.and_eq_true, Bool.or_eq_true, Bool.and_eq_false_iff, Bool.or_eq_false_iff, decide_eq_true_eq, decide_eq_false_iff_not, Bool.not_eq_true, Bool.not_eq_false, Bool.not_not, Bool.not_eq_eq_eq_not, Bool.not_true, Bool.not_false, Bool.false_eq_true, Bool.true_eq_false, ne_eq, Decidable.not_not, not_false_eq_true, not_true_eq_false] at c19
      refine seq ?_
      refine region ?_
      refine sv (yBuild Try.zeroValue38 rfl pl38 .nil rfl) ?_
      refine sv (yMove rfl) ?_
      refine sst hS rfl rfl Try.sizeOf38 rfl rfl rfl rfl ?_; clear hS; intro w hS
      refine sv (yAsg rfl) ?_
      refine nil ?_
      show Code.wp _ _ _ _ _
      have hfin : levelF t tick = (⟨0, 0⟩, (checkT t).2) := by unfold levelF; rw [if_pos c14]
      refine wp_ret (thenR ?_)
      exact retV (resV2 rfl (rc rfl Try.isAgg38 Try.sizeOf38 (hS.at _) (by rw [hfin]; rfl) rfl) (rt (eqI (by rw [hfin])))) hS.ext
    ·
      simp only [Bool.and_eq_true, Bool.or_eq_true, Bool.and_eq_false_iff, Bool.or_eq_false_iff, decide_eq_true_eq, decide_eq_false_iff_not, Bool.not_eq_true, Bool.not_eq_false, Bool.not_not, Bool.not_eq_eq_eq_not, Bool.not_true, Bool.not_false, Bool.false_eq_true, Bool.true_eq_false, ne_eq, Decidable.not_not, not_false_eq_true, not_true_eq_false] at c19
      exact absurd c19 c14
end Go.Proofs.Ytpgmehignepidaa
/- part Wk4 -/
namespace Go.Proofs.Ytpgmehignepidaa
open Go Bx
/-- barrage/tide.CheckGauge closure 1 -/
theorem c_CheckGauge1 {b : Nat} {T : TypeId} {g : Gauge} {dv rv : Value} {w0 : World} (hb : w0.heap[b]? = some (.cells [.string g.name, .int .i64 g.err, .int .i64 g.rate, dv, rv].toArray T (0, 0))) (hs : g.name.size ≤ 9223372036854775807) : CV Try.prog 65 #[.pointer (some ⟨b, 0, none⟩)] w0 (.bool (!isName g.name)) := by
  refine enter Try.func65 rfl Try.ntmps65 rfl ?_
  have hS := St.start w0
  refine seq ?_
  refine region ?_
  refine sv (yAsg rfl) ?_
  refine nil ?_
  show Code.wp _ _ _ _ _
  refine seq ?_
  refine region ?_
  refine sv (fa34_0 rfl) ?_
  refine sv (yLdB rfl Try.isAgg9 (hS.ext.get hb) rfl) ?_
  refine scall Try.call21 (.cons rfl .nil) (c_Name hs) ?_
  rintro _ w ⟨rfl, hE⟩; replace hS := hS.step hE; clear hE
  refine sv (yNot rfl) ?_
  refine sv (yAsg rfl) ?_
  refine nil ?_
  show Code.wp _ _ _ _ _
  refine wp_ret ?_
  exact retV (res1 rfl rfl) hS.ext
/-- barrage/tide.CheckGauge closure 2 -/
theorem c_CheckGauge2 {b : Nat} {T : TypeId} {g : Gauge} {dv rv : Value} {w0 : World} (hb : w0.heap[b]? = some (.cells [.string g.name, .int .i64 g.err, .int .i64 g.rate, dv, rv].toArray T (0, 0))) : CV Try.prog 66 #[.pointer (some ⟨b, 0, none⟩)] w0 (.bool (outB g.err 0 5000 || outB g.rate 0 5000)) := by
  refine enter Try.func66 rfl Try.ntmps66 rfl ?_
  have hS := St.start w0
  refine seq ?_
  refine region ?_
  refine sv (yAsg rfl) ?_
  refine nil ?_
  show Code.wp _ _ _ _ _
  refine seq ?_
  refine region ?_
  refine sv (fa34_1 rfl) ?_
  refine sv (yLdB rfl Try.isAgg3 (hS.ext.get hb) rfl) ?_
  refine scall Try.call54 (.cons rfl (.cons rfl (.cons rfl .nil))) c_out ?_
  rintro _ w ⟨rfl, hE⟩; replace hS := hS.step hE; clear hE
  refine sv (yMove rfl) ?_
  refine sg rfl rfl rfl (fun g => (fa34_2 rfl)) (fun v6 g6 => ?_)
  refine sg rfl rfl rfl (fun g => (yLdB (g6.1 g) Try.isAgg3 (hS.ext.get hb) rfl)) (fun v7 g7 => ?_)
  refine sgc hS rfl rfl rfl Try.call54 (fun g => (.cons (g7.1 g) (.cons rfl (.cons rfl .nil)))) (fun g => c_out) ?_; clear hS; intro v8 w hS g8
  refine sv (yOr rfl rfl (fun hB => (g8.1 hB))) ?_
  refine sv (yAsg rfl) ?_
  refine nil ?_
  show Code.wp _ _ _ _ _
  refine wp_ret ?_
  exact retV (res1 rfl rfl) hS.ext
set_option maxHeartbeats 1000000 in
/-- barrage/tide.CheckGauge -/
theorem c_CheckGauge {g : Gauge} {cs : List Value} {w0 : World} (hg : RGauge w0 cs g) : CV Try.prog 24 #[.agg cs.toArray] w0 (.tuple #[.int .i64 (checkG g).1, .int .i64 (checkG g).2.1, .int .i64 (checkG g).2.2]) := by
  obtain ⟨dv, rv, rfl, hnm, hge, hgr, hsd, hsr⟩ := id hg
  obtain ⟨a, cap, rfl, hcap, hmx, hel⟩ := id hsd
  obtain ⟨a2, cap2, rfl, hcap2, hmx2, hel2⟩ := id hsr
  refine enter Try.func24 rfl Try.ntmps24 rfl ?_
  have hS := St.start w0
  refine seq ?_
  refine region ?_
  refine sbox hS rfl rfl ?_; clear hS; intro b1 w hS
  refine sv (yAsg rfl) ?_
  refine sv (yAsg rfl) ?_
  refine sv (yAsg rfl) ?_
  refine nil ?_
  show Code.wp _ _ _ _ _
  refine seq ?_
  refine region ?_
  refine sv (yFn (.cons rfl .nil)) ?_
  refine sv (yBuild Try.zeroValue96 rfl pl96 (.cons rfl rfl (.cons rfl rfl .nil)) rfl) ?_
  refine sv (yFn (.cons rfl .nil)) ?_
  refine sv (yBuild Try.zeroValue96 rfl pl96 (.cons rfl rfl (.cons rfl rfl .nil)) rfl) ?_
  refine sbslice hS Try.underlying133 Try.sizeOf96 rfl Try.zeroValue96 rfl (.cons rfl rfl (.cons rfl rfl .nil)) rfl ?_; clear hS; intro b15 w hS
  refine scall Try.call52 (.cons rfl .nil) (c_first (rs := [⟨65, [.pointer (some ⟨b1, 0, none⟩)], 6, !isName g.name⟩, ⟨66, [.pointer (some ⟨b1, 0, none⟩)], 7, outB g.err 0 5000 || outB g.rate 0 5000⟩]) (hS.at _) ⟨Try.call65, fun w e => c_CheckGauge1 (e.get (hS.at b1)) hnm, fun _ => ⟨Try.call66, fun w e => c_CheckGauge2 (e.get (hS.at b1)), fun _ => trivial⟩⟩ (Nat.le_of_ble_eq_true rfl) (gErr_eq g _ _ _ _)) ?_
  rintro _ w ⟨rfl, hE⟩; replace hS := hS.step hE; clear hE
  refine sv (yAsg rfl) ?_
  refine nil ?_
  show Code.wp _ _ _ _ _
  refine seq ?_
  refine block ?_
  refine seq ?_
  refine region ?_
  refine sv (yMove rfl) ?_
  refine sv (yNeq rfl rfl) ?_
  refine sv (yAsg rfl) ?_
  refine nil ?_
  show Code.wp _ _ _ _ _
  refine cond rfl (fun c17 => ?_) (fun c17 => ?_)
  ·
    simp only [Bool.and_eq_true, Bool.or_eq_true, Bool.and_eq_false_iff, Bool.or_eq_false_iff, decide_eq_true_eq, decide_eq_false_iff_not, Bool.not_eq_true, Bool.not_eq_false, Bool.not_not, Bool.not_eq_eq_eq_not, Bool.not_true, Bool.not_false, Bool.false_eq_true, Bool.true_eq_false, ne_eq, Decidable.not_not, not_false_eq_true, not_true_eq_false] at c17
    refine seq ?_
    refine region ?_
    refine sv (yMove rfl) ?_
    refine sv (yAsg rfl) ?_
    refine sv (yAsg rfl) ?_
    refine sv (yAsg rfl) ?_
    refine nil ?_
    show Code.wp _ _ _ _ _
    have hfin : checkG g = (1, 0, gErr g) := by unfold checkG; rw [if_pos c17]
    refine wp_ret (blockR (thenR ?_))
    exact retV (res3 rfl (fstI hfin) (thd1I hfin) (thd2I hfin)) hS.ext
  ·
    simp only [Bool.and_eq_true, Bool.or_eq_true, Bool.and_eq_false_iff, Bool.or_eq_false_iff, decide_eq_true_eq, decide_eq_false_iff_not, Bool.not_eq_true, Bool.not_eq_false, Bool.not_not, Bool.not_eq_eq_eq_not, Bool.not_true, Bool.not_false, Bool.false_eq_true, Bool.true_eq_false, ne_eq, Decidable.not_not, not_false_eq_true, not_true_eq_false] at c17
    refine seq ?_
    refine region ?_
    refine sv (fa34_3 rfl) ?_
    refine sv (yLdB rfl Try.isAgg31 (hS.at _) rfl) ?_
    refine sv (yLen rfl Try.underlying31) ?_
    refine scall Try.call54 (.cons rfl (.cons rfl (.cons rfl .nil))) c_out ?_
    rintro _ w ⟨rfl, hE⟩; replace hS := hS.step hE; clear hE
    refine sv (yAsg rfl) ?_
    refine nil ?_
    show Code.wp _ _ _ _ _
    refine cond rfl (fun c21 => ?_) (fun c21 => ?_)
    ·
      refine seq ?_
      refine region ?_
      refine sv (yAsg rfl) ?_
      refine sv (yAsg rfl) ?_
      refine sv (yAsg rfl) ?_
      refine nil ?_
      show Code.wp _ _ _ _ _
      have hfin : checkG g = (2, 0, 3) := by unfold checkG; rw [if_neg (fun h => h c17), if_pos c21]
      refine wp_ret (blockR (thenR ?_))
      exact retV (res3 rfl (fstI hfin) (thd1I hfin) (thd2I hfin)) hS.ext
    ·
      refine skip ?_
      show Code.wp _ _ _ _ _
      refine seq ?_
      refine region ?_
      refine sv (yAsg rfl) ?_
      refine nil ?_
      show Code.wp _ _ _ _ _
      refine seq ?_
      refine seq ?_
      refine region ?_
      refine sv (fa34_3 rfl) ?_
      refine sv (yLdB rfl Try.isAgg31 (hS.at _) rfl) ?_
      refine sv (yLen rfl Try.underlying31) ?_
      refine sv (yMove rfl) ?_
      refine nil ?_
      show Code.wp _ _ _ _ _
      refine block ?_
      refine loop (fun f w zz => ∃ (k : Nat) (bef : Int), f 1 = .pointer (some ⟨b1, 0, none⟩) ∧ f 5 = .int .i64 bef ∧ f 27 = .slice a g.datums.length cap ∧ f 28 = .int .i64 (g.datums.length : Int) ∧ f 29 = .int .i64 (k : Int) ∧ StX [] w0 w [blk b1 [.string g.name, .int .i64 g.err, .int .i64 g.rate, .slice a g.datums.length cap, .slice a2 g.readings.length cap2] 34] ∧ (k ≤ g.datums.length) ∧ (Bd bef (-1) 200000) ∧ (checkG g = checkD (checkRs g) (g.datums.drop k) bef k) ∧ zz = g.datums.length - k) _ ⟨_, rfl, 0, -1, rfl, rfl, rfl, rfl, rfl, (hS.sub (.cons _ (.cons_cons _ (List.nil_sublist _)))), (Nat.zero_le _), (by omega), (by unfold checkG; rw [if_neg (fun h => h c17), if_neg (by rw [c21]; decide)]; rfl), rfl⟩ ?_
      clear hS
      rintro f w _ ⟨k, bef, h1, h5, h27, h28, h29, hS, hk, hb, hI, rfl⟩
      refine seq ?_
      refine region ?_
      refine sv (yLss h29 h28) ?_
      refine nil ?_
      show Code.wp _ _ _ _ _
      refine seq ?_
      refine cond rfl (fun c30 => ?_) (fun c30 => ?_)
      ·
        simp only [Bool.and_eq_true, Bool.or_eq_true, Bool.and_eq_false_iff, Bool.or_eq_false_iff, decide_eq_true_eq, decide_eq_false_iff_not, Bool.not_eq_true, Bool.not_eq_false, Bool.not_not, Bool.not_eq_eq_eq_not, Bool.not_true, Bool.not_false, Bool.false_eq_true, Bool.true_eq_false, ne_eq, Decidable.not_not, not_false_eq_true, not_true_eq_false] at c30
        refine skip ?_
        show Code.wp _ _ _ _ _
        refine seq ?_
        refine block ?_
        refine seq ?_
        refine region ?_
        obtain ⟨d, hx, hd⟩ := drop_of (l := g.datums) (k := k) (by omega)
        obtain ⟨b, o, cs, ha, hlen, hcs, hR⟩ := hel (k) (by omega)
        obtain rfl : d = g.datums[k] := (List.getElem?_eq_some_iff.1 hx).2.symm
        generalize g.datums[k] = d at hx hd hR
        obtain ⟨rfl, hd1, hd2, hd3⟩ := hR
        refine sv (yMove h29) ?_
        refine sv (yIxa h27 ha h29 Try.runUnderlying31 Try.sizeOf78 (by omega) (by omega)) ?_
        refine sv (yLdA rfl Try.isAgg78 Try.sizeOf78 (hcs.ext hS.ext) rfl) ?_
        refine salloc hS Try.zeroValue78 rfl ?_; clear hS; intro b7 w hS
        refine sv (yAsg rfl) ?_
        refine sst hS rfl rfl Try.sizeOf78 rfl rfl rfl rfl ?_; clear hS; intro w hS
        refine nil ?_
        show Code.wp _ _ _ _ _
        refine seq ?_
        refine region ?_
        refine sv (fa78_1 rfl) ?_
        refine sv (yLdBA rfl Try.isAgg38 Try.sizeOf38 (hS.at _) rfl rfl) ?_
        refine salloc hS Try.zeroValue38 rfl ?_; clear hS; intro b8 w hS
        refine sst hS rfl rfl Try.sizeOf38 rfl rfl rfl rfl ?_; clear hS; intro w hS
        refine nil ?_
        show Code.wp _ _ _ _ _
        refine seq ?_
        refine seq ?_
        refine region ?_
        refine sv (fa78_0 rfl) ?_
        refine sv (yLdB rfl Try.isAgg3 (hS.at _) rfl) ?_
        refine sv (yMove h5) ?_
        refine sv (yAdd rfl rfl ⟨by omega, by omega⟩) ?_
        refine scall Try.call54 (.cons rfl (.cons rfl (.cons rfl .nil))) c_out ?_
        rintro _ w ⟨rfl, hE⟩; replace hS := hS.step hE; clear hE
        refine sv (yMove rfl) ?_
        refine sg rfl rfl rfl (fun g => (yMove rfl)) (fun v42 g42 => ?_)
        refine sg rfl rfl rfl (fun g => (yEql (g42.1 g) rfl)) (fun v43 g43 => ?_)
        refine sg rfl rfl rfl (fun g => (yMove (g43.1 g))) (fun v44 g44 => ?_)
        refine sgg rfl rfl g44 (fun g => (fa78_0 rfl)) (fun v45 g45 => ?_)
        refine sgg rfl rfl g44 (fun g => (yLdB (g45.1 g) Try.isAgg3 (hS.at _) rfl)) (fun v46 g46 => ?_)
        refine sgg rfl rfl g44 (fun g => (yGtr (g46.1 g) rfl)) (fun v47 g47 => ?_)
        refine sg rfl rfl rfl (fun g => (yAnd (g44.1 g) (fun hB => (g47.1 ⟨g, hB⟩)) rfl)) (fun v48 g48 => ?_)
        refine sv (yOr rfl rfl (fun hB => (g48.1 hB))) ?_
        refine sv (yMove rfl) ?_
        refine sg rfl rfl rfl (fun g => (fa38_1 rfl)) (fun v51 g51 => ?_)
        refine sg rfl rfl rfl (fun g => (yLdB (g51.1 g) Try.isAgg3 (hS.at _) rfl)) (fun v52 g52 => ?_)
        refine sgc hS rfl rfl rfl Try.call54 (fun g => (.cons (g52.1 g) (.cons rfl (.cons rfl .nil)))) (fun g => c_out) ?_; clear hS; intro v53 w hS g53
        refine sv (yOr rfl rfl (fun hB => (g53.1 hB))) ?_
        refine sv (yMove rfl) ?_
        refine sg rfl rfl rfl (fun g => (fa38_0 rfl)) (fun v56 g56 => ?_)
        refine sg rfl rfl rfl (fun g => (yLdB (g56.1 g) Try.isAgg3 (hS.at _) rfl)) (fun v57 g57 => ?_)
        refine sg rfl rfl rfl (fun g => (fa38_1 rfl)) (fun v58 g58 => ?_)
        refine sg rfl rfl rfl (fun g => (yLdB (g58.1 g) Try.isAgg3 (hS.at _) rfl)) (fun v59 g59 => ?_)
        refine sgc hS rfl rfl rfl Try.call54 (fun g => (.cons (g57.1 g) (.cons rfl (.cons (g59.1 g) .nil)))) (fun g => c_out) ?_; clear hS; intro v60 w hS g60
        refine sv (yOr rfl rfl (fun hB => (g60.1 hB))) ?_
        refine nil ?_
        show Code.wp _ _ _ _ _
        refine cond rfl (fun c61 => ?_) (fun c61 => ?_)
        ·
          refine seq ?_
          refine region ?_
          refine sv (yMove rfl) ?_
          refine sv (yAsg rfl) ?_
          refine sv (yAsg rfl) ?_
          refine sv (yAsg rfl) ?_
          refine nil ?_
          show Code.wp _ _ _ _ _
          have hfin : checkG g = (2, (k : Int), 7) := by rw [hI, hd, checkD, if_pos (show datBad bef k d = true from c61)]
          refine wp_ret (thenR (blockR (thenR (thenR (blockR (thenR ?_))))))
          exact retV (res3 rfl (fstI hfin) (thd1I hfin) (thd2I hfin)) hS.ext
        ·
          refine skip ?_
          show Code.wp _ _ _ _ _
          refine region ?_
          refine sv (fa78_0 rfl) ?_
          refine sv (yLdB rfl Try.isAgg3 (hS.at _) rfl) ?_
          refine sv (yAsg rfl) ?_
          refine nil ?_
          show Code.wp _ _ _ _ _
          refine region ?_
          refine sv (yAdd h29 rfl ⟨by omega, by omega⟩) ?_
          refine sv (yMove rfl) ?_
          refine nil ?_
          exact ⟨_, _, rfl, ⟨k + 1, d.start, h1, rfl, h27, h28, rfl, (hS.sub (.cons _ (.cons _ (List.Sublist.refl _)))), (by omega), (by have := datBad_iff.1 c61; omega), (by rw [hI, hd, checkD, if_neg (by rw [show datBad bef k d = false from c61]; decide)]), rfl⟩, by omega⟩
      ·
        simp only [Bool.and_eq_true, Bool.or_eq_true, Bool.and_eq_false_iff, Bool.or_eq_false_iff, decide_eq_true_eq, decide_eq_false_iff_not, Bool.not_eq_true, Bool.not_eq_false, Bool.not_not, Bool.not_eq_eq_eq_not, Bool.not_true, Bool.not_false, Bool.false_eq_true, Bool.true_eq_false, ne_eq, Decidable.not_not, not_false_eq_true, not_true_eq_false] at c30
        refine exit ?_
        show Code.wp _ _ _ _ _
        refine seq ?_
        refine seq ?_
        refine region ?_
        refine sv (fa34_4 h1) ?_
        refine sv (yLdB rfl Try.isAgg32 (hS.at _) rfl) ?_
        refine sv (yLen rfl Try.underlying32) ?_
        refine sv (yGtr rfl rfl) ?_
        refine nil ?_
        show Code.wp _ _ _ _ _
        refine cond rfl (fun c69 => ?_) (fun c69 => ?_)
        ·
          simp only [Bool.and_eq_true, Bool.or_eq_true, Bool.and_eq_false_iff, Bool.or_eq_false_iff, decide_eq_true_eq, decide_eq_false_iff_not, Bool.not_eq_true, Bool.not_eq_false, Bool.not_not, Bool.not_eq_eq_eq_not, Bool.not_true, Bool.not_false, Bool.false_eq_true, Bool.true_eq_false, ne_eq, Decidable.not_not, not_false_eq_true, not_true_eq_false] at c69
          obtain rfl : k = g.datums.length := by omega
          rw [List.drop_length, checkD] at hI
          unfold checkRs at hI
          refine seq ?_
          refine region ?_
          refine sv (yAsg rfl) ?_
          refine sv (yAsg rfl) ?_
          refine sv (yAsg rfl) ?_
          refine nil ?_
          show Code.wp _ _ _ _ _
          have hfin : checkG g = (3, 0, 3) := by rw [hI, if_pos c69]
          refine wp_ret (thenR ?_)
          exact retV (res3 rfl (fstI hfin) (thd1I hfin) (thd2I hfin)) hS.ext
        ·
          simp only [Bool.and_eq_true, Bool.or_eq_true, Bool.and_eq_false_iff, Bool.or_eq_false_iff, decide_eq_true_eq, decide_eq_false_iff_not, Bool.not_eq_true, Bool.not_eq_false, Bool.not_not, Bool.not_eq_eq_eq_not, Bool.not_true, Bool.not_false, Bool.false_eq_true, Bool.true_eq_false, ne_eq, Decidable.not_not, not_false_eq_true, not_true_eq_false] at c69
          obtain rfl : k = g.datums.length := by omega
          rw [List.drop_length, checkD] at hI
          unfold checkRs at hI
          refine skip ?_
          show Code.wp _ _ _ _ _
          refine seq ?_
          refine region ?_
          refine sv (yAsg rfl) ?_
          refine nil ?_
          show Code.wp _ _ _ _ _
          refine seq ?_
          refine seq ?_
          refine region ?_
          refine sv (fa34_4 h1) ?_
          refine sv (yLdB rfl Try.isAgg32 (hS.at _) rfl) ?_
          refine sv (yLen rfl Try.underlying32) ?_
          refine sv (yMove rfl) ?_
          refine nil ?_
          show Code.wp _ _ _ _ _
          refine block ?_
          refine loop (fun f w zz => ∃ (k : Nat) (bef : Int), f 5 = .int .i64 bef ∧ f 71 = .slice a2 g.readings.length cap2 ∧ f 72 = .int .i64 (g.readings.length : Int) ∧ f 73 = .int .i64 (k : Int) ∧ StX [] w0 w [] ∧ (k ≤ g.readings.length) ∧ (Bd bef (-1) 200000) ∧ (checkG g = checkR (g.readings.drop k) bef k) ∧ zz = g.readings.length - k) _ ⟨_, rfl, 0, -1, rfl, rfl, rfl, rfl, (hS.sub (List.nil_sublist _)), (Nat.zero_le _), (by omega), (by rw [hI, if_neg (by omega)]; rfl), rfl⟩ ?_
          clear hS
          rintro f w _ ⟨k, bef, h5, h71, h72, h73, hS, hk, hb, hI, rfl⟩
          refine seq ?_
          refine region ?_
          refine sv (yLss h73 h72) ?_
          refine nil ?_
          show Code.wp _ _ _ _ _
          refine seq ?_
          refine cond rfl (fun c74 => ?_) (fun c74 => ?_)
          ·
            simp only [Bool.and_eq_true, Bool.or_eq_true, Bool.and_eq_false_iff, Bool.or_eq_false_iff, decide_eq_true_eq, decide_eq_false_iff_not, Bool.not_eq_true, Bool.not_eq_false, Bool.not_not, Bool.not_eq_eq_eq_not, Bool.not_true, Bool.not_false, Bool.false_eq_true, Bool.true_eq_false, ne_eq, Decidable.not_not, not_false_eq_true, not_true_eq_false] at c74
            refine skip ?_
            show Code.wp _ _ _ _ _
            refine seq ?_
            refine block ?_
            refine seq ?_
            refine region ?_
            obtain ⟨r, hx, hd⟩ := drop_of (l := g.readings) (k := k) (by omega)
            obtain ⟨b, o, cs, ha, hlen, hcs, hR⟩ := hel2 (k) (by omega)
            obtain rfl : r = g.readings[k] := (List.getElem?_eq_some_iff.1 hx).2.symm
            generalize g.readings[k] = r at hx hd hR
            obtain ⟨rfl, hr1, hr2⟩ := hR
            refine sv (yMove h73) ?_
            refine sv (yIxa h71 ha h73 Try.runUnderlying32 Try.sizeOf103 (by omega) (by omega)) ?_
            refine sv (yLdA rfl Try.isAgg103 Try.sizeOf103 (hcs.ext hS.ext) rfl) ?_
            refine salloc hS Try.zeroValue103 rfl ?_; clear hS; intro b10 w hS
            refine sv (yAsg rfl) ?_
            refine sst hS rfl rfl Try.sizeOf103 rfl rfl rfl rfl ?_; clear hS; intro w hS
            refine nil ?_
            show Code.wp _ _ _ _ _
            refine seq ?_
            refine seq ?_
            refine region ?_
            refine sv (fa103_0 rfl) ?_
            refine sv (yLdB rfl Try.isAgg3 (hS.at _) rfl) ?_
            refine sv (yMove h5) ?_
            refine sv (yAdd rfl rfl ⟨by omega, by omega⟩) ?_
            refine scall Try.call54 (.cons rfl (.cons rfl (.cons rfl .nil))) c_out ?_
            rintro _ w ⟨rfl, hE⟩; replace hS := hS.step hE; clear hE
            refine sv (yMove rfl) ?_
            refine sg rfl rfl rfl (fun g => (fa103_1 rfl)) (fun v84 g84 => ?_)
            refine sg rfl rfl rfl (fun g => (yLdB (g84.1 g) Try.isAgg3 (hS.at _) rfl)) (fun v85 g85 => ?_)
            refine sgc hS rfl rfl rfl Try.call54 (fun g => (.cons (g85.1 g) (.cons rfl (.cons rfl .nil)))) (fun g => c_out) ?_; clear hS; intro v86 w hS g86
            refine sv (yOr rfl rfl (fun hB => (g86.1 hB))) ?_
            refine nil ?_
            show Code.wp _ _ _ _ _
            refine cond rfl (fun c87 => ?_) (fun c87 => ?_)
            ·
              refine seq ?_
              refine region ?_
              refine sv (yMove rfl) ?_
              refine sv (yAsg rfl) ?_
              refine sv (yAsg rfl) ?_
              refine sv (yAsg rfl) ?_
              refine nil ?_
              show Code.wp _ _ _ _ _
              have hfin : checkG g = (3, (k : Int), 7) := by rw [hI, hd, checkR, if_pos (show readBad bef r = true from c87)]
              refine wp_ret (thenR (blockR (thenR (thenR (blockR (thenR ?_))))))
              exact retV (res3 rfl (fstI hfin) (thd1I hfin) (thd2I hfin)) hS.ext
            ·
              refine skip ?_
              show Code.wp _ _ _ _ _
              refine region ?_
              refine sv (fa103_0 rfl) ?_
              refine sv (yLdB rfl Try.isAgg3 (hS.at _) rfl) ?_
              refine sv (yAsg rfl) ?_
              refine nil ?_
              show Code.wp _ _ _ _ _
              refine region ?_
              refine sv (yAdd h73 rfl ⟨by omega, by omega⟩) ?_
              refine sv (yMove rfl) ?_
              refine nil ?_
              exact ⟨_, _, rfl, ⟨k + 1, r.tick, rfl, h71, h72, rfl, (hS.sub (List.nil_sublist _)), (by omega), (by have := readBad_iff.1 c87; omega), (by rw [hI, hd, checkR, if_neg (by rw [show readBad bef r = false from c87]; decide)]), rfl⟩, by omega⟩
          ·
            simp only [Bool.and_eq_true, Bool.or_eq_true, Bool.and_eq_false_iff, Bool.or_eq_false_iff, decide_eq_true_eq, decide_eq_false_iff_not, Bool.not_eq_true, Bool.not_eq_false, Bool.not_not, Bool.not_eq_eq_eq_not, Bool.not_true, Bool.not_false, Bool.false_eq_true, Bool.true_eq_false, ne_eq, Decidable.not_not, not_false_eq_true, not_true_eq_false] at c74
            refine exit ?_
            show Code.wp _ _ _ _ _
            refine seq ?_
            refine region ?_
            refine sv (yAsg rfl) ?_
            refine sv (yAsg rfl) ?_
            refine sv (yAsg rfl) ?_
            refine nil ?_
            show Code.wp _ _ _ _ _
            obtain rfl : k = g.readings.length := by omega
            have hfin : checkG g = (0, 0, 0) := by rw [hI, List.drop_length]; rfl
            refine wp_ret ?_
            exact retV (res3 rfl (fstI hfin) (thd1I hfin) (thd2I hfin)) hS.ext
/-- cmp.isNaN int  -/
theorem c_isNaN {a : Int} {w0 : World} : CV Try.prog 113 #[.int .i64 a] w0 (.bool false) := by
  refine enter Try.func113 rfl Try.ntmps113 rfl ?_
  have hS := St.start w0
  refine seq ?_
  refine region ?_
  refine sv (yAsg rfl) ?_
  refine nil ?_
  show Code.wp _ _ _ _ _
  refine seq ?_
  refine region ?_
  refine sv (yMove rfl) ?_
  refine sv (yMove rfl) ?_
  refine sv (yNeq rfl rfl) ?_
  refine sv (yAsg rfl) ?_
  refine nil ?_
  show Code.wp _ _ _ _ _
  refine wp_ret ?_
  exact retV (res1 rfl (eqB (by simp))) hS.ext
/-- cmp.Compare int  -/
theorem c_Compare {a b : Int} {w0 : World} : CV Try.prog 95 #[.int .i64 a, .int .i64 b] w0 (.int .i64 (cmpI a b)) := by
  refine enter Try.func95 rfl Try.ntmps95 rfl ?_
  have hS := St.start w0
  refine seq ?_
  refine region ?_
  refine sv (yAsg rfl) ?_
  refine nil ?_
  show Code.wp _ _ _ _ _
  refine seq ?_
  refine region ?_
  refine sv (yMove rfl) ?_
  refine scall Try.call113 (.cons rfl .nil) c_isNaN ?_
  rintro _ w ⟨rfl, hE⟩; replace hS := hS.step hE; clear hE
  refine sv (yAsg rfl) ?_
  refine nil ?_
  show Code.wp _ _ _ _ _
  refine seq ?_
  refine region ?_
  refine sv (yMove rfl) ?_
  refine scall Try.call113 (.cons rfl .nil) c_isNaN ?_
  rintro _ w ⟨rfl, hE⟩; replace hS := hS.step hE; clear hE
  refine sv (yAsg rfl) ?_
  refine nil ?_
  show Code.wp _ _ _ _ _
  refine seq ?_
  refine seq ?_
  refine region ?_
  refine sv (yMove rfl) ?_
  refine nil ?_
  show Code.wp _ _ _ _ _
  refine cond rfl (fun c11 => ?_) (fun c11 => ?_)
  ·
    exact absurd c11 (by decide)
  ·
    refine skip ?_
    show Code.wp _ _ _ _ _
    refine seq ?_
    refine seq ?_
    refine region ?_
    refine sv (yMove rfl) ?_
    refine nil ?_
    show Code.wp _ _ _ _ _
    refine cond rfl (fun c13 => ?_) (fun c13 => ?_)
    ·
      exact absurd c13 (by decide)
    ·
      refine skip ?_
      show Code.wp _ _ _ _ _
      refine seq ?_
      refine seq ?_
      refine region ?_
      refine sv (yMove rfl) ?_
      refine sv (yMove rfl) ?_
      refine sv (yLss rfl rfl) ?_
      refine nil ?_
      show Code.wp _ _ _ _ _
      refine cond rfl (fun c16 => ?_) (fun c16 => ?_)
      ·
        simp only [Bool.and_eq_true, Bool.or_eq_true, Bool.and_eq_false_iff, Bool.or_eq_false_iff, decide_eq_true_eq, decide_eq_false_iff_not, Bool.not_eq_true, Bool.not_eq_false, Bool.not_not, Bool.not_eq_eq_eq_not, Bool.not_true, Bool.not_false, Bool.false_eq_true, Bool.true_eq_false, ne_eq, Decidable.not_not, not_false_eq_true, not_true_eq_false] at c16
        refine seq ?_
        refine region ?_
        refine sv (yAsg rfl) ?_
        refine nil ?_
        show Code.wp _ _ _ _ _
        refine wp_ret (thenR ?_)
        exact retV (res1 rfl (eqI (by unfold cmpI; rw [if_pos c16]))) hS.ext
      ·
        simp only [Bool.and_eq_true, Bool.or_eq_true, Bool.and_eq_false_iff, Bool.or_eq_false_iff, decide_eq_true_eq, decide_eq_false_iff_not, Bool.not_eq_true, Bool.not_eq_false, Bool.not_not, Bool.not_eq_eq_eq_not, Bool.not_true, Bool.not_false, Bool.false_eq_true, Bool.true_eq_false, ne_eq, Decidable.not_not, not_false_eq_true, not_true_eq_false] at c16
        refine skip ?_
        show Code.wp _ _ _ _ _
        refine seq ?_
        refine seq ?_
        refine region ?_
        refine sv (yMove rfl) ?_
        refine sv (yMove rfl) ?_
        refine sv (yGtr rfl rfl) ?_
        refine nil ?_
        show Code.wp _ _ _ _ _
        refine cond rfl (fun c19 => ?_) (fun c19 => ?_)
        ·
          simp only [Bool.and_eq_true, Bool.or_eq_true, Bool.and_eq_false_iff, Bool.or_eq_false_iff, decide_eq_true_eq, decide_eq_false_iff_not, Bool.not_eq_true, Bool.not_eq_false, Bool.not_not, Bool.not_eq_eq_eq_not, Bool.not_true, Bool.not_false, Bool.false_eq_true, Bool.true_eq_false, ne_eq, Decidable.not_not, not_false_eq_true, not_true_eq_false] at c19
          refine seq ?_
          refine region ?_
          refine sv (yAsg rfl) ?_
          refine nil ?_
          show Code.wp _ _ _ _ _
          refine wp_ret (thenR ?_)
          exact retV (res1 rfl (eqI (by unfold cmpI; rw [if_neg c16, if_pos c19]))) hS.ext
        ·
          simp only [Bool.and_eq_true, Bool.or_eq_true, Bool.and_eq_false_iff, Bool.or_eq_false_iff, decide_eq_true_eq, decide_eq_false_iff_not, Bool.not_eq_true, Bool.not_eq_false, Bool.not_not, Bool.not_eq_eq_eq_not, Bool.not_true, Bool.not_false, Bool.false_eq_true, Bool.true_eq_false, ne_eq, Decidable.not_not, not_false_eq_true, not_true_eq_false] at c19
          refine skip ?_
          show Code.wp _ _ _ _ _
          refine seq ?_
          refine region ?_
          refine sv (yAsg rfl) ?_
          refine nil ?_
          show Code.wp _ _ _ _ _
          refine wp_ret ?_
          exact retV (res1 rfl (eqI (by unfold cmpI; rw [if_neg c16, if_neg c19]))) hS.ext
/-- barrage/tide.datum closure 1 -/
theorem c_datum1 {d : Datum} {t : Int} {w0 : World} : CV Try.prog 112 #[.agg (datumC d).toArray, .int .i64 t] w0 (.int .i64 (cmpI d.start t)) := by
  refine enter Try.func112 rfl Try.ntmps112 rfl ?_
  have hS := St.start w0
  refine seq ?_
  refine region ?_
  refine sbox hS rfl rfl ?_; clear hS; intro b2 w hS
  refine sv (yAsg rfl) ?_
  refine nil ?_
  show Code.wp _ _ _ _ _
  refine seq ?_
  refine region ?_
  refine sv (fa78_0 rfl) ?_
  refine sv (yLdB rfl Try.isAgg3 (hS.at _) rfl) ?_
  refine sv (yMove rfl) ?_
  refine scall Try.call95 (.cons rfl (.cons rfl .nil)) c_Compare ?_
  rintro _ w ⟨rfl, hE⟩; replace hS := hS.step hE; clear hE
  refine sv (yAsg rfl) ?_
  refine nil ?_
  show Code.wp _ _ _ _ _
  refine wp_ret ?_
  exact retV (res1 rfl rfl) hS.ext
set_option maxHeartbeats 1000000 in
/-- slices.BinarySearchFunc   barrage/api.TdDatum,barrage/api.TdDatum,int  -/
theorem c_SearchDatum {l : List Datum} {v : Value} {t : Int} {w0 : World} (hsl : Sl w0 3 RDatum v l) (hp : l.Pairwise fun a b => a.start < b.start) (hl : l.length ≤ 1000) : CE Try.prog 111 #[v, .int .i64 t, .func (.func 112) #[] #[]] w0 (fun v w' => ∃ i is, v = .tuple #[.int .i64 ((i : Nat) : Int), .bool is] ∧ searchD l t i is ∧ Ext w0 w') := by
  obtain ⟨a, cap, rfl, hcap, hmx, hel⟩ := id hsl
  refine enter Try.func111 rfl Try.ntmps111 rfl ?_
  have hS := St.start w0
  refine seq ?_
  refine region ?_
  refine sv (yAsg rfl) ?_
  refine sv (yAsg rfl) ?_
  refine nil ?_
  show Code.wp _ _ _ _ _
  refine seq ?_
  refine region ?_
  refine sv (yMove rfl) ?_
  refine sv (yLen rfl Try.underlying31) ?_
  refine sv (yAsg rfl) ?_
  refine nil ?_
  show Code.wp _ _ _ _ _
  refine seq ?_
  refine region ?_
  refine sv (yMove rfl) ?_
  refine sv (yAsg rfl) ?_
  refine sv (yAsg rfl) ?_
  refine nil ?_
  show Code.wp _ _ _ _ _
  refine seq ?_
  refine block ?_
  refine loop (fun f w zz => ∃ (i j : Nat), f 0 = .slice a l.length cap ∧ f 1 = .int .i64 t ∧ f 2 = .func (.func 112) #[] #[] ∧ f 8 = .int .i64 (l.length : Int) ∧ f 9 = .int .i64 (i : Int) ∧ f 10 = .int .i64 (j : Int) ∧ StX [] w0 w [] ∧ (i ≤ j ∧ j ≤ l.length) ∧ (∀ k d, l[k]? = some d → k < i → d.start < t) ∧ (∀ k d, l[k]? = some d → j ≤ k → t ≤ d.start) ∧ zz = j - i) _ ⟨_, rfl, 0, l.length, rfl, rfl, rfl, rfl, rfl, rfl, hS, (⟨Nat.zero_le _, Nat.le_refl _⟩), (fun k d _ h => absurd h (Nat.not_lt_zero k)), (fun k d h h2 => by rw [List.getElem?_eq_none h2] at h; cases h), rfl⟩ ?_
  clear hS
  rintro f w _ ⟨i, j, h0, h1, h2, h8, h9, h10, hS, hij, hlo, hhi, rfl⟩
  refine seq ?_
  refine seq ?_
  refine region ?_
  refine sv (yMove h9) ?_
  refine sv (yMove h10) ?_
  refine sv (yLss rfl rfl) ?_
  refine nil ?_
  show Code.wp _ _ _ _ _
  refine cond rfl (fun c17 => ?_) (fun c17 => ?_)
  ·
    simp only [Bool.and_eq_true, Bool.or_eq_true, Bool.and_eq_false_iff, Bool.or_eq_false_iff, decide_eq_true_eq, decide_eq_false_iff_not, Bool.not_eq_true, Bool.not_eq_false, Bool.not_not, Bool.not_eq_eq_eq_not, Bool.not_true, Bool.not_false, Bool.false_eq_true, Bool.true_eq_false, ne_eq, Decidable.not_not, not_false_eq_true, not_true_eq_false] at c17
    refine skip ?_
    show Code.wp _ _ _ _ _
    refine block ?_
    refine seq ?_
    refine region ?_
    refine sv (yMove h9) ?_
    refine sv (yMove h10) ?_
    refine sv (yAdd rfl rfl ⟨by omega, by omega⟩) ?_
    refine sv (yToU rfl Try.underlying3 Try.underlying154 ⟨by omega, by omega⟩) ?_
    refine sv (yShr1 rfl rfl) ?_
    refine sv (Y.to (yToI rfl Try.underlying154 Try.underlying3 ⟨by omega, by omega⟩) (show Value.int .i64 (((i : Int) + (j : Int)) / 2) = .int .i64 (((i + j) / 2 : Nat) : Int) by congr 1)) ?_
    refine sv (yAsg rfl) ?_
    refine nil ?_
    show Code.wp _ _ _ _ _
    refine seq ?_
    refine region ?_
    obtain ⟨d, hx, hd⟩ := drop_of (l := l) (k := (i + j) / 2) (by omega)
    obtain ⟨b, o, cs, ha, hlen, hcs, hR⟩ := hel ((i + j) / 2) (by omega)
    obtain rfl : d = l[(i + j) / 2] := (List.getElem?_eq_some_iff.1 hx).2.symm
    generalize l[(i + j) / 2] = d at hx hd hR
    obtain ⟨rfl, hd1, hd2, hd3⟩ := hR
    refine sv (yMove h2) ?_
    refine sv (yMove h0) ?_
    refine sv (yMove rfl) ?_
    refine sv (yIxa rfl ha rfl Try.runUnderlying31 Try.sizeOf78 (by omega) (by omega)) ?_
    refine sv (yLdA rfl Try.isAgg78 Try.sizeOf78 (hcs.ext hS.ext) rfl) ?_
    refine sv (yMove h1) ?_
    refine scallf rfl Try.call112 (.cons rfl (.cons rfl .nil)) c_datum1 ?_
    rintro _ w ⟨rfl, hE⟩; replace hS := hS.step hE; clear hE
    refine sv (yLss rfl rfl) ?_
    refine nil ?_
    show Code.wp _ _ _ _ _
    refine cond rfl (fun c31 => ?_) (fun c31 => ?_)
    ·
      simp only [Bool.and_eq_true, Bool.or_eq_true, Bool.and_eq_false_iff, Bool.or_eq_false_iff, decide_eq_true_eq, decide_eq_false_iff_not, Bool.not_eq_true, Bool.not_eq_false, Bool.not_not, Bool.not_eq_eq_eq_not, Bool.not_true, Bool.not_false, Bool.false_eq_true, Bool.true_eq_false, ne_eq, Decidable.not_not, not_false_eq_true, not_true_eq_false, cmpI_lt] at c31
      refine region ?_
      refine sv (yMove rfl) ?_
      refine sv (yAdd rfl rfl ⟨by omega, by omega⟩) ?_
      refine sv (yAsg rfl) ?_
      refine nil ?_
      exact ⟨_, _, rfl, ⟨(i + j) / 2 + 1, j, h0, h1, h2, h8, rfl, h10, hS, (⟨by omega, by omega⟩), (fun k x hk hkm => by have := asc_le hp hk hx (by omega); omega), (hhi), rfl⟩, by omega⟩
    ·
      simp only [Bool.and_eq_true, Bool.or_eq_true, Bool.and_eq_false_iff, Bool.or_eq_false_iff, decide_eq_true_eq, decide_eq_false_iff_not, Bool.not_eq_true, Bool.not_eq_false, Bool.not_not, Bool.not_eq_eq_eq_not, Bool.not_true, Bool.not_false, Bool.false_eq_true, Bool.true_eq_false, ne_eq, Decidable.not_not, not_false_eq_true, not_true_eq_false, cmpI_lt] at c31
      refine region ?_
      refine sv (yMove rfl) ?_
      refine sv (yAsg rfl) ?_
      refine nil ?_
      exact ⟨_, _, rfl, ⟨i, (i + j) / 2, h0, h1, h2, h8, h9, rfl, hS, (⟨by omega, by omega⟩), (hlo), (fun k x hk hkm => by have := asc_le hp hx hk (by omega); omega), rfl⟩, by omega⟩
  ·
    simp only [Bool.and_eq_true, Bool.or_eq_true, Bool.and_eq_false_iff, Bool.or_eq_false_iff, decide_eq_true_eq, decide_eq_false_iff_not, Bool.not_eq_true, Bool.not_eq_false, Bool.not_not, Bool.not_eq_eq_eq_not, Bool.not_true, Bool.not_false, Bool.false_eq_true, Bool.true_eq_false, ne_eq, Decidable.not_not, not_false_eq_true, not_true_eq_false] at c17
    refine exit ?_
    show Code.wp _ _ _ _ _
    refine seq ?_
    refine region ?_
    obtain rfl : i = j := by omega
    obtain ⟨b, o, hk⟩ : ∃ b o, i < l.length → a = some ⟨b, o, none⟩ ∧ Cells w0 b (o + i * 3) (datumC (l.getD i ⟨0, ⟨0, 0⟩⟩)) := by
      by_cases hi : i < l.length
      · obtain ⟨b, o, cs, ha, hlen, hcs, hR⟩ := hel i hi
        exact ⟨b, o, fun _ => ⟨ha, by rw [show l.getD i ⟨0, ⟨0, 0⟩⟩ = l[i] by simp [hi], ← hR.1]; exact hcs⟩⟩
      · exact ⟨0, 0, fun h => absurd h hi⟩
    refine sv (yMove h9) ?_
    refine sv (yMove h9) ?_
    refine sv (yMove h8) ?_
    refine sv (yLss rfl rfl) ?_
    refine sv (yMove rfl) ?_
    refine sg rfl rfl rfl (fun g => (yMove h2)) (fun v40 g40 => ?_)
    refine sg rfl rfl rfl (fun g => (yMove h0)) (fun v41 g41 => ?_)
    refine sg rfl rfl rfl (fun g => (yMove h9)) (fun v42 g42 => ?_)
    refine sg rfl rfl rfl (fun g => (yIxa (g41.1 g) (hk (by have := of_decide_eq_true g; omega)).1 (g42.1 g) Try.runUnderlying31 Try.sizeOf78 (by omega) (of_decide_eq_true g))) (fun v43 g43 => ?_)
    refine sg rfl rfl rfl (fun g => (yLdA (g43.1 g) Try.isAgg78 Try.sizeOf78 ((hk (by have := of_decide_eq_true g; omega)).2.ext hS.ext) rfl)) (fun v44 g44 => ?_)
    refine sg rfl rfl rfl (fun g => (yMove h1)) (fun v45 g45 => ?_)
    refine sgcf hS rfl rfl rfl (fun g => (g40.1 g)) Try.call112 (fun g => (.cons (g44.1 g) (.cons (g45.1 g) .nil))) (fun g => c_datum1) ?_; clear hS; intro v46 w hS g46
    refine sg rfl rfl rfl (fun g => (yEql (g46.1 g) rfl)) (fun v47 g47 => ?_)
    refine sv (yAnd rfl (fun hB => (g47.1 hB)) rfl) ?_
    refine sv (yAsg rfl) ?_
    refine sv (yAsg rfl) ?_
    refine nil ?_
    show Code.wp _ _ _ _ _
    refine wp_ret ?_
    refine retQ (res2 rfl rfl rfl) ?_
    refine ⟨i, _, rfl, ⟨hij.2, hlo, hhi, ?_⟩, hS.ext⟩
    simp only [Bool.and_eq_true, decide_eq_true_eq, cmpI_eq]
    constructor
    · rintro ⟨h1, h2⟩
      have h1 : i < l.length := by omega
      exact ⟨l[i], by simp [h1], by simpa [h1] using h2⟩
    · rintro ⟨d, h1, h2⟩
      have h3 := (List.getElem?_eq_some_iff.1 h1).1
      refine ⟨by omega, ?_⟩
      rw [List.getD_eq_getElem?_getD, h1]; exact h2
end Go.Proofs.Ytpgmehignepidaa
