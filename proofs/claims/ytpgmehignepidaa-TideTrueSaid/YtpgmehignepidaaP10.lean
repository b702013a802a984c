/- Cycles: the period of a table; lists of levels. -/
import Derived.Test.YtpgmehignepidaaP9
set_option linter.all false
namespace Bx
open Go Go.RowKit
def gcdI (a b : Int) : Int := (Nat.gcd a.toNat b.toNat : Nat)
theorem gcdI_pos {a b : Int} (h : 0 < a) : 0 < gcdI a b := by
  unfold gcdI
  have := Nat.gcd_pos_of_pos_left b.toNat (show 0 < a.toNat by omega)
  omega
theorem gcdI_pos2 {a b : Int} (h : 0 < b) : 0 < gcdI a b := by
  unfold gcdI
  have := Nat.gcd_pos_of_pos_right a.toNat (show 0 < b.toNat by omega)
  omega
theorem gcdI_l {a b : Int} (h : 0 ≤ a) : ∃ x, a = gcdI a b * x ∧ 0 ≤ x := by
  obtain ⟨x, hx⟩ := Nat.gcd_dvd_left a.toNat b.toNat
  refine ⟨(x : Int), ?_, by omega⟩
  unfold gcdI
  rw [← Int.natCast_mul, ← hx]
  omega
theorem gcdI_r {a b : Int} (h : 0 ≤ b) : ∃ x, b = gcdI a b * x ∧ 0 ≤ x := by
  obtain ⟨x, hx⟩ := Nat.gcd_dvd_right a.toNat b.toNat
  refine ⟨(x : Int), ?_, by omega⟩
  unfold gcdI
  rw [← Int.natCast_mul, ← hx]
  omega
theorem div_gcd {g x : Int} (hg : 0 < g) : g * x / g = x := Int.mul_ediv_cancel_left x (by omega)
def cyc (c : Const) : Int := c.den * c.heights.length
def oneC (c : Const) : Int := cyc c / gcdI (cyc c) c.step
theorem oneC_bd {c : Const} (h : ConstOk c) : Bd (oneC c) 1 48000 := by
  have h1 := cyc_pos h
  have hg := gcdI_pos (b := c.step) (show 0 < cyc c by unfold cyc; omega)
  obtain ⟨x, hx, hx0⟩ := gcdI_l (b := c.step) (show 0 ≤ cyc c by unfold cyc; omega)
  have e : oneC c = x := by
    unfold oneC
    conv => lhs; arg 1; rw [hx]
    exact div_gcd hg
  rw [e]
  have hx1 : 0 < x := by
    rcases Int.lt_or_eq_of_le hx0 with h | h
    · exact h
    · rw [← h, Int.mul_zero] at hx; unfold cyc at hx; omega
  have : 1 * x ≤ gcdI (cyc c) c.step * x := Int.mul_le_mul_of_nonneg_right (by omega) hx0
  have : cyc c ≤ 48000 := h1.2
  exact ⟨by omega, by omega⟩
def perS (n : Int) (c : Const) : Int := n * (oneC c / gcdI n (oneC c))
def perL : List Const → Int → Int × Int
  | [], n => (n, 0)
  | c :: cs, n => if 1000000000 < perS n c then (0, 3) else perL cs (perS n c)
def periodF (t : Table) : Int × Int := if (checkT t).2 ≠ 0 then (0, (checkT t).2) else perL t.consts 1
theorem quo_bd {n o : Int} (hn : 1 ≤ n) (ho : 1 ≤ o) : 1 ≤ o / gcdI n o ∧ o / gcdI n o ≤ o := by
  have hg := gcdI_pos (b := o) (show 0 < n by omega)
  obtain ⟨x, hx, hx0⟩ := gcdI_r (a := n) (show 0 ≤ o by omega)
  have e : o / gcdI n o = x := by
    conv => lhs; arg 1; rw [hx]
    exact div_gcd hg
  rw [e]
  have hx1 : 0 < x := by
    rcases Int.lt_or_eq_of_le hx0 with h | h
    · exact h
    · rw [← h, Int.mul_zero] at hx; omega
  have : 1 * x ≤ gcdI n o * x := Int.mul_le_mul_of_nonneg_right (by omega) hx0
  exact ⟨by omega, by omega⟩
theorem perS_bd {n : Int} {c : Const} (hn : Bd n 1 1000000000) (h : ConstOk c) : Bd (perS n c) 1 48000000000000 := by
  have ho := oneC_bd h
  have hq := quo_bd hn.1 ho.1
  unfold perS
  constructor
  · have := Int.mul_le_mul hn.1 hq.1 (by omega) (by omega)
    omega
  · have := Int.mul_le_mul hn.2 (show oneC c / gcdI n (oneC c) ≤ 48000 by omega) (by omega) (by omega)
    omega
theorem perS_dvd {n : Int} {c : Const} (hn : 1 ≤ n) (h : ConstOk c) : (∃ x, perS n c = n * x) ∧ ∃ x, perS n c = oneC c * x := by
  refine ⟨⟨_, rfl⟩, ?_⟩
  have ho := oneC_bd h
  have hg := gcdI_pos (b := oneC c) (show 0 < n by omega)
  obtain ⟨x, hx, _⟩ := gcdI_r (a := n) (show 0 ≤ oneC c by omega)
  obtain ⟨y, hy, _⟩ := gcdI_l (b := oneC c) (show 0 ≤ n by omega)
  refine ⟨y, ?_⟩
  have e : oneC c / gcdI n (oneC c) = x := by
    conv => lhs; arg 1; rw [hx]
    exact div_gcd hg
  unfold perS
  rw [e]
  conv => lhs; arg 1; rw [hy]
  conv => rhs; arg 1; rw [hx]
  rw [Int.mul_assoc, Int.mul_assoc, Int.mul_comm x y]
theorem perL_spec : ∀ (cs : List Const) (n m : Int), (∀ c ∈ cs, ConstOk c) → Bd n 1 1000000000 → perL cs n = (m, 0) → 1 ≤ m ∧ (∃ x, m = n * x) ∧ ∀ c ∈ cs, ∃ x, m = oneC c * x
  | [], n, m, _, hn, h => by
    obtain rfl : n = m := by unfold perL at h; exact congrArg Prod.fst h
    exact ⟨hn.1, ⟨1, by omega⟩, fun c hc => by cases hc⟩
  | c :: cs, n, m, hc, hn, h => by
    unfold perL at h
    split at h
    · exact absurd (congrArg Prod.snd h) (show ¬ (3 : Int) = 0 by decide)
    · rename_i hle
      have hok := hc c (List.mem_cons_self ..)
      have hb := perS_bd hn hok
      obtain ⟨h1, ⟨x, hx⟩, h3⟩ := perL_spec cs _ m (fun d hd => hc d (List.mem_cons_of_mem _ hd)) ⟨hb.1, by omega⟩ h
      obtain ⟨⟨y, hy⟩, ⟨z, hz⟩⟩ := perS_dvd hn.1 hok
      refine ⟨h1, ⟨y * x, by rw [hx, hy, Int.mul_assoc]⟩, fun d hd => ?_⟩
      rcases List.mem_cons.1 hd with rfl | hd
      · exact ⟨z * x, by rw [hx, hz, Int.mul_assoc]⟩
      · exact h3 d hd
theorem pAt_period {c : Const} (h : ConstOk c) {m tick : Int} (hm : ∃ x, m = oneC c * x) : pAt c (tick + m) = pAt c tick := by
  obtain ⟨x, rfl⟩ := hm
  have h1 := cyc_pos h
  have hg := gcdI_pos (b := c.step) (show 0 < cyc c by unfold cyc; omega)
  obtain ⟨y, hy, _⟩ := gcdI_l (b := c.step) (show 0 ≤ cyc c by unfold cyc; omega)
  obtain ⟨z, hz, _⟩ := gcdI_r (a := cyc c) (show 0 ≤ c.step by have := h.step; omega)
  have e : oneC c = y := by
    unfold oneC
    conv => lhs; arg 1; rw [hy]
    exact div_gcd hg
  have e2 : c.step * (oneC c * x) = cyc c * (z * x) := by
    rw [e]
    conv => lhs; arg 1; rw [hz]
    conv => rhs; arg 1; rw [hy]
    rw [Int.mul_assoc, Int.mul_assoc]
    congr 1
    rw [← Int.mul_assoc, ← Int.mul_assoc, Int.mul_comm z y]
  unfold pAt
  rw [Int.mul_add, e2, ← Int.add_assoc]
  exact Int.add_mul_emod_self_left _ _ _
theorem lvl_congr {f g : Const → Span} : ∀ (cs : List Const) (s : Span), (∀ c ∈ cs, f c = g c) → cs.foldl (fun s c => addS s (f c)) s = cs.foldl (fun s c => addS s (g c)) s
  | [], _, _ => rfl
  | c :: cs, s, h => by
    rw [List.foldl_cons, List.foldl_cons, h c (List.mem_cons_self ..)]
    exact lvl_congr cs _ (fun d hd => h d (List.mem_cons_of_mem _ hd))
theorem period_lvl {t : Table} {n tick : Int} (h : periodF t = (n, 0)) : (checkT t).2 = 0 ∧ 1 ≤ n ∧ lvlT t (tick + n) = lvlT t tick := by
  unfold periodF at h
  split at h
  · rename_i h1; exact absurd (congrArg Prod.snd h) h1
  rename_i h1
  have hc : (checkT t).2 = 0 := Decidable.not_not.1 h1
  have hok := tableOk_of hc
  obtain ⟨h2, _, h3⟩ := perL_spec t.consts 1 n hok.consts ⟨by decide, by decide⟩ h
  refine ⟨hc, h2, ?_⟩
  unfold lvlT lvl
  exact lvl_congr _ _ (fun c hcm => by rw [pAt_period (hok.consts c hcm) (h3 c hcm)])
/-! ### offsets one step on -/
def shiftC (c : Const) : Const := { c with off := (c.off + c.step) % (c.den * c.heights.length) }
theorem cErr_shift {seen : List ByteArray} {c : Const} (h : cErr seen c = 0) : cErr seen (shiftC c) = 0 := by
  have hok := constOk_of h
  have hcy := cyc_pos hok
  unfold cErr at h ⊢
  split at h
  · exact absurd h (by decide)
  rename_i h1
  split at h
  · exact absurd h (by decide)
  rename_i h2
  split at h
  · exact absurd h (by decide)
  rename_i h3
  split at h
  · exact absurd h (by decide)
  rename_i h4
  rw [if_neg (by exact h1), if_neg (by exact h2), if_neg (by exact h3), if_neg]
  rw [Bool.not_eq_true, numsB_false] at h4 ⊢
  obtain ⟨a, b, c1, d, e⟩ := h4
  refine ⟨a, b, c1, ?_, e⟩
  show Bd ((c.off + c.step) % (c.den * c.heights.length)) 0 _
  exact ⟨Int.emod_nonneg _ (by omega), by have := Int.emod_lt_of_pos (c.off + c.step) (show 0 < c.den * (c.heights.length : Int) by omega); show _ ≤ c.den * (c.heights.length : Int) - 1; omega⟩
theorem checkL_shift : ∀ (cs : List Const) (seen : List ByteArray) (i : Int), (checkL cs seen i).2 = 0 → (checkL (cs.map shiftC) seen i).2 = 0
  | [], _, _, _ => rfl
  | c :: cs, seen, i, h => by
    unfold checkL at h
    split at h
    · rename_i h1; exact absurd h h1
    · rename_i h1
      show (checkL (shiftC c :: cs.map shiftC) seen i).2 = 0
      unfold checkL
      rw [if_neg (fun k => k (cErr_shift (Decidable.not_not.1 h1)))]
      exact checkL_shift cs _ _ h
theorem checkT_shift {t : Table} (h : (checkT t).2 = 0) : (checkT ⟨t.mean, t.consts.map shiftC⟩).2 = 0 := by
  unfold checkT at h ⊢
  split at h
  · exact absurd h (by decide)
  rename_i h1
  split at h
  · exact absurd h (by decide)
  rename_i h2
  rw [if_neg (by exact h1), if_neg (by rw [show (⟨t.mean, t.consts.map shiftC⟩ : Table).consts = t.consts.map shiftC from rfl, List.length_map]; exact h2)]
  exact checkL_shift _ _ _ h
theorem pAt_shift (c : Const) (tick : Int) : pAt (shiftC c) tick = pAt c (tick + 1) := by
  show ((c.off + c.step) % (c.den * c.heights.length) + c.step * tick) % (c.den * c.heights.length) = (c.off + c.step * (tick + 1)) % (c.den * c.heights.length)
  rw [Int.emod_add_emod, Int.mul_add, Int.mul_one]
  congr 1; omega
theorem lvl_shift (t : Table) (tick : Int) : lvlT ⟨t.mean, t.consts.map shiftC⟩ tick = lvlT t (tick + 1) := by
  unfold lvlT lvl
  rw [List.foldl_map]
  exact lvl_congr _ _ (fun c _ => by rw [pAt_shift]; rfl)
theorem levelF_cases (t : Table) (tick : Int) : (levelF t tick).2 = 0 ∨ (levelF t tick).1 = ⟨0, 0⟩ := by
  unfold levelF
  split
  · exact .inr rfl
  · split
    · exact .inr rfl
    · exact .inl rfl
/-! ### lists of levels -/
def someE (a n : Int) : Int := if outB n 0 400 = true then 3 else if n = 0 then 0 else if outB a 0 200000 = true then 7 else ticksE [a + n - 1]
def levelsE (t : Table) (a n : Int) : Int := if (checkT t).2 = 0 then someE a n else (checkT t).2
def lvlsL (t : Table) (a : Int) (n : Nat) : List Span := (List.range n).map fun (i : Nat) => lvlT t (a + i)
def levelsF (t : Table) (a n : Int) : List Span := if levelsE t a n ≠ 0 then [] else lvlsL t a n.toNat
theorem someE_zero {a n : Int} (h : someE a n = 0) : Bd n 0 400 ∧ (n ≠ 0 → Bd a 0 200000 ∧ Bd (a + n - 1) 0 200000) := by
  unfold someE at h
  split at h
  · exact absurd h (by decide)
  rename_i h1
  rw [Bool.not_eq_true, outB_false] at h1
  refine ⟨h1, fun hn => ?_⟩
  rw [if_neg hn] at h
  split at h
  · exact absurd h (by decide)
  rename_i h2
  rw [Bool.not_eq_true, outB_false] at h2
  exact ⟨h2, ticks1 h⟩
theorem lvlsL_ok {t : Table} (h : TableOk t) (a : Int) (n : Nat) : ∀ s ∈ lvlsL t a n, I64 s.lo ∧ I64 s.hi := by
  intro s hs
  obtain ⟨i, _, rfl⟩ := List.mem_map.1 hs
  have hb := lvl_bd h.mean t.consts (a + i) h.consts
  have := h.len
  unfold lvlT
  exact ⟨⟨by omega, by omega⟩, ⟨by omega, by omega⟩⟩
theorem lvlsL_len (t : Table) (a : Int) (n : Nat) : (lvlsL t a n).length = n := by simp [lvlsL]
theorem someE_eq (a n : Int) (h : Bd n 0 400) : someE a n = if 0 < n ∧ (¬ Bd a 0 200000 ∨ ¬ Bd (a + n - 1) 0 200000) then 7 else 0 := by
  unfold someE
  rw [if_neg (by rw [Bool.not_eq_true, outB_false]; exact h)]
  by_cases hn : n = 0
  · rw [if_pos hn, if_neg (by omega)]
  · rw [if_neg hn]
    by_cases h1 : Bd a 0 200000
    · rw [if_neg (by rw [Bool.not_eq_true, outB_false]; exact h1)]
      unfold ticksE
      by_cases h2 : Bd (a + n - 1) 0 200000
      · rw [if_neg, if_neg (by omega)]
        simp only [List.any_cons, List.any_nil, Bool.or_false, Bool.not_eq_true, outB_false]; exact h2
      · rw [if_pos, if_pos ⟨by omega, .inr h2⟩]
        simp only [List.any_cons, List.any_nil, Bool.or_false, outB_true]; omega
    · rw [if_pos (by rw [outB_true]; omega), if_pos ⟨by omega, .inl h1⟩]
end Bx
