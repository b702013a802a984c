/- What a gauge says: plain laws. -/
import Derived.Test.YtpgmehignepidaaP4
set_option linter.all false
namespace Bx
open Go Go.RowKit
def around (v e : Int) (s : Span) : Span := ⟨v - e - s.hi, v + e - s.lo⟩
def cutS (a b : Span) : Span := ⟨max a.lo b.lo, min a.hi b.hi⟩
def datS (g : Gauge) (t : Int) : Span := (g.datums.getD (datI g.datums t) ⟨0, ⟨0, 0⟩⟩).shift
def farR (g : Gauge) (t : Int) (r : Reading) : Int := g.rate * max (t - r.tick) (r.tick - t)
def readSpan (g : Gauge) (t : Int) (r : Reading) : Span := around r.value (g.err + farR g t r) (datS g r.tick)
def cuts (g : Gauge) (t : Int) (rs : List Reading) : Span := rs.foldl (fun s r => cutS s (readSpan g t r)) ⟨-20000, 20000⟩
def known (rs : List Reading) (now : Int) : List Reading := rs.filter fun r => decide (r.tick ≤ now)
def saysL (g : Gauge) (t : Int) (l : List Reading) : Span × Int := if l = [] then (⟨0, 0⟩, 4) else if (cuts g t l).hi < (cuts g t l).lo then (⟨0, 0⟩, 9) else (cuts g t l, 0)
def saysG (g : Gauge) (t now : Int) : Span × Int := saysL g t (known g.readings now)
def saysE (g : Gauge) (t now : Int) : Int := if (checkG g).2.2 = 0 then ticksE [t, now] else (checkG g).2.2
def saysF (g : Gauge) (t now : Int) : Span × Int := if saysE g t now ≠ 0 then (⟨0, 0⟩, saysE g t now) else saysG g t now
theorem saysE_ok {g : Gauge} {t now : Int} (h : saysE g t now = 0) : GaugeOk g ∧ Bd t 0 200000 ∧ Bd now 0 200000 := by
  unfold saysE at h
  split at h
  · rename_i h1
    refine ⟨gaugeOk_of h1, ?_⟩
    unfold ticksE at h
    split at h
    · exact absurd h (by decide)
    · rename_i h2
      simp only [List.any_cons, List.any_nil, Bool.or_false, Bool.not_eq_true, Bool.or_eq_false_iff, outB_false] at h2
      exact h2
  · rename_i h1; exact absurd h h1
theorem cuts_snoc (g : Gauge) (t : Int) (l : List Reading) (r : Reading) : cuts g t (l ++ [r]) = cutS (cuts g t l) (readSpan g t r) := by simp [cuts]
theorem take_snoc {α : Type} {l : List α} {k : Nat} {x : α} (h : l[k]? = some x) : l.take (k + 1) = l.take k ++ [x] := by
  obtain ⟨h1, h2⟩ := List.getElem?_eq_some_iff.1 h
  rw [List.take_succ_eq_append_getElem h1, h2]
theorem datum_at {g : Gauge} (h : GaugeOk g) {t : Int} (ht : 0 ≤ t) : ∃ d, g.datums[datI g.datums t]? = some d ∧ d.shift = datS g t ∧ DatumOk d := by
  have hl := datI_lt h ht
  refine ⟨g.datums[datI g.datums t], by simp [hl], ?_, h.datums _ (List.getElem_mem _)⟩
  unfold datS
  rw [List.getD_eq_getElem?_getD, List.getElem?_eq_getElem hl]; rfl
theorem datS_bd {g : Gauge} (h : GaugeOk g) {t : Int} (ht : 0 ≤ t) : -5000 ≤ (datS g t).lo ∧ (datS g t).lo ≤ (datS g t).hi ∧ (datS g t).hi ≤ 5000 := by
  obtain ⟨d, _, e, hd⟩ := datum_at h ht
  rw [← e]; exact hd.shift
theorem farR_bd {g : Gauge} (h : GaugeOk g) {t : Int} (ht : Bd t 0 200000) {r : Reading} (hr : ReadOk r) : Bd (farR g t r) 0 1000000000 := by
  have h1 := hr.tick
  have h2 := h.rate
  have h3 : 0 ≤ max (t - r.tick) (r.tick - t) ∧ max (t - r.tick) (r.tick - t) ≤ 200000 := by omega
  have := mul_bd (a := g.rate) (A := 5000) ⟨by omega, by omega⟩ h3 (by decide)
  have h0 : 0 ≤ farR g t r := Int.mul_nonneg h2.1 h3.1
  exact ⟨h0, by unfold farR; omega⟩
theorem readSpan_bd {g : Gauge} (h : GaugeOk g) {t : Int} (ht : Bd t 0 200000) {r : Reading} (hr : ReadOk r) : Bd (readSpan g t r).lo (-2000000000) 2000000000 ∧ Bd (readSpan g t r).hi (-2000000000) 2000000000 := by
  have h1 := farR_bd h ht hr
  have h2 := datS_bd h hr.tick.1
  have h3 := hr.value
  have h4 := h.err
  unfold readSpan around
  exact ⟨⟨by simp only []; omega, by simp only []; omega⟩, ⟨by simp only []; omega, by simp only []; omega⟩⟩
theorem fold_cut_bd {g : Gauge} (h : GaugeOk g) {t : Int} (ht : Bd t 0 200000) : ∀ (l : List Reading) (s : Span), (∀ r ∈ l, ReadOk r) → Bd s.lo (-20000) 2000000000 → Bd s.hi (-2000000000) 20000 →
    Bd (l.foldl (fun s r => cutS s (readSpan g t r)) s).lo (-20000) 2000000000 ∧ Bd (l.foldl (fun s r => cutS s (readSpan g t r)) s).hi (-2000000000) 20000
  | [], _, _, h1, h2 => ⟨h1, h2⟩
  | r :: l, s, hl, h1, h2 => by
    have hb := readSpan_bd h ht (hl r (by simp))
    exact fold_cut_bd h ht l _ (fun x hx => hl x (List.mem_cons_of_mem _ hx)) ⟨by simp only [cutS]; omega, by simp only [cutS]; omega⟩ ⟨by simp only [cutS]; omega, by simp only [cutS]; omega⟩
theorem cuts_bd {g : Gauge} (h : GaugeOk g) {t : Int} (ht : Bd t 0 200000) {l : List Reading} (hl : ∀ r ∈ l, ReadOk r) : Bd (cuts g t l).lo (-20000) 2000000000 ∧ Bd (cuts g t l).hi (-2000000000) 20000 :=
  fold_cut_bd h ht l _ hl ⟨by simp only []; omega, by simp only []; omega⟩ ⟨by simp only []; omega, by simp only []; omega⟩
theorem known_all {rs : List Reading} {now : Int} (h : ∀ r ∈ rs, r.tick ≤ now) : known rs now = rs := List.filter_eq_self.2 fun r hr => decide_eq_true (h r hr)
theorem known_stop {rs : List Reading} {now : Int} (hp : rs.Pairwise fun a b => a.tick < b.tick) {k : Nat} {r : Reading} (hk : rs[k]? = some r) (h1 : ∀ x ∈ rs.take k, x.tick ≤ now) (h2 : now < r.tick) : known rs now = rs.take k := by
  obtain ⟨hl, rfl⟩ := List.getElem?_eq_some_iff.1 hk
  have e : rs = rs.take k ++ rs.drop k := (List.take_append_drop k rs).symm
  unfold known
  conv => lhs; rw [e]
  rw [List.filter_append, List.filter_eq_self.2 fun x hx => decide_eq_true (h1 x hx), List.filter_eq_nil_iff.2, List.append_nil]
  intro x hx
  have hx' : now < x.tick := by
    rw [List.drop_eq_getElem_cons hl] at hx
    rcases List.mem_cons.1 hx with rfl | hx
    · exact h2
    · have := List.pairwise_cons.1 ((List.drop_eq_getElem_cons hl) ▸ hp.drop (i := k))
      have := this.1 x hx
      omega
  simp; omega
theorem take_nil_iff {α : Type} {l : List α} {k : Nat} (hk : k ≤ l.length) : l.take k = [] ↔ k = 0 := by
  rw [← List.length_eq_zero_iff, List.length_take]; omega
theorem known_snoc_in {rs : List Reading} {now : Int} {k : Nat} {r : Reading} (h : rs[k]? = some r) (hr : r.tick ≤ now) : known (rs.take (k + 1)) now = known (rs.take k) now ++ [r] := by
  unfold known; rw [take_snoc h, List.filter_append]; simp [hr]
theorem known_snoc_out {rs : List Reading} {now : Int} {k : Nat} {r : Reading} (h : rs[k]? = some r) (hr : now < r.tick) : known (rs.take (k + 1)) now = known (rs.take k) now := by
  unfold known; rw [take_snoc h, List.filter_append]; simp; omega
theorem saysG_none {g : Gauge} {t now : Int} (h : known g.readings now = []) : saysG g t now = (⟨0, 0⟩, 4) := by unfold saysG saysL; rw [if_pos h]
theorem saysG_down {g : Gauge} {t now : Int} {l : List Reading} (h : known g.readings now = l) (hl : l ≠ []) (hc : (cuts g t l).hi < (cuts g t l).lo) : saysG g t now = (⟨0, 0⟩, 9) := by unfold saysG saysL; rw [h, if_neg hl, if_pos hc]
theorem saysG_ok {g : Gauge} {t now : Int} {l : List Reading} (h : known g.readings now = l) (hl : l ≠ []) (hc : ¬ (cuts g t l).hi < (cuts g t l).lo) : saysG g t now = (cuts g t l, 0) := by unfold saysG saysL; rw [h, if_neg hl, if_neg hc]
theorem known_sub (rs : List Reading) (now : Int) : ∀ r ∈ known rs now, r ∈ rs := fun _ hr => (List.mem_filter.1 hr).1
end Bx
namespace Bx
open Go Go.RowKit
def RSpan (_ : World) (cs : List Value) (s : Span) : Prop := cs = spanC s ∧ I64 s.lo ∧ I64 s.hi
theorem RSpan.stays : Stays RSpan := fun _ _ _ _ _ h => h
end Bx
