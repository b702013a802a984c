/- The document's words on gauges say the same: plain laws. -/
import Derived.Test.YtpgmehignepidaaP5
set_option linter.all false
namespace Bx
open Go Go.RowKit
theorem dat0_eq {d : Datum} {k : Nat} (hk : (k : Int) = 0) : (!(((inB d.start 0 200000 && inB d.shift.lo (-5000) d.shift.hi) && decide (d.shift.hi ≤ 5000)) && decide (d.start = 0))) = datBad (-1) k d := by
  rw [← Bool.not_inj_iff, Bool.not_not, Bool.eq_iff_iff, Bool.not_eq_true', datBad_iff]
  simp only [Bool.and_eq_true, inB_iff, decide_eq_true_eq]
  omega
theorem dat1_eq {d p : Datum} {k : Nat} (hp : 0 ≤ p.start) (hk : (k : Int) ≠ 0) : (!(((inB d.start 0 200000 && inB d.shift.lo (-5000) d.shift.hi) && decide (d.shift.hi ≤ 5000)) && decide (p.start < d.start))) = datBad p.start k d := by
  rw [← Bool.not_inj_iff, Bool.not_not, Bool.eq_iff_iff, Bool.not_eq_true', datBad_iff]
  simp only [Bool.and_eq_true, inB_iff, decide_eq_true_eq]
  omega
theorem read_eq {rs : List Reading} {r p : Reading} {k : Nat} {bef : Int} (hp : 0 < k → bef = p.tick ∧ 0 ≤ bef) (h : (k = 0 ∧ bef = -1) ∨ ∃ p, 0 < k ∧ rs[k - 1]? = some p ∧ bef = p.tick ∧ 0 ≤ bef) : ((!inB r.tick 0 200000 || !inB r.value (-30000) 30000) || (decide (0 < (k : Int)) && decide (r.tick ≤ p.tick))) = readBad bef r := by
  rw [Bool.eq_iff_iff]
  simp only [readBad, outB_true, Bool.or_eq_true, Bool.and_eq_true, decide_eq_true_eq, Bool.not_eq_true', ← Bool.not_eq_true, inB_iff]
  rcases Nat.eq_zero_or_pos k with h0 | h0
  · have hb : bef = -1 := by rcases h with h | ⟨_, h, _⟩ <;> omega
    omega
  · have := hp h0
    omega
theorem read_lo {g : Gauge} {t : Int} {r : Reading} {s : Span} (h : s = datS g r.tick) : r.value - g.err - s.hi - g.rate * max (t - r.tick) (r.tick - t) = (readSpan g t r).lo := by
  subst h; unfold readSpan around farR; simp only []; omega
theorem read_hi {g : Gauge} {t : Int} {r : Reading} {s : Span} (h : s = datS g r.tick) : r.value + g.err - s.lo + g.rate * max (t - r.tick) (r.tick - t) = (readSpan g t r).hi := by
  subst h; unfold readSpan around farR; simp only []; omega
end Bx
namespace Bx
theorem ticks2 (t now : Int) : ticksE [t, now] = if (outB t 0 200000 || outB now 0 200000) = true then 7 else 0 := by unfold ticksE; simp
theorem saysE_bad {g : Gauge} {t now : Int} (h : (checkG g).2.2 = 0) (h2 : outB t 0 200000 = true ∨ outB now 0 200000 = true) : saysE g t now = 7 := by
  unfold saysE; rw [if_pos h, ticks2, if_pos (by simpa using h2)]
theorem saysE_good {g : Gauge} {t now : Int} (h : ¬ (checkG g).2.2 = 0 ∨ outB t 0 200000 = false ∧ outB now 0 200000 = false) : saysE g t now = (checkG g).2.2 := by
  unfold saysE
  split
  · rename_i h0
    have h1 := h.resolve_left (fun h => h h0)
    rw [ticks2, if_neg (by simp [h1.1, h1.2]), h0]
  · rfl
end Bx
