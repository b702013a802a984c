/- Readings that were made of levels: plain laws. -/
import Derived.Test.YtpgmehignepidaaP12
set_option linter.all false
namespace Bx
open Go Go.RowKit
abbrev W64 (a : Int) : Int := IntKind.i64.wrap a
def nextL (rate l m : Int) : Int := max (-20000) (min 20000 (W64 (l + (W64 (rate * max m (-127))).tdiv 127)))
def lvS (rate lev : Int) (ms : List Int) : Nat → Int
  | 0 => lev
  | k + 1 => nextL rate (lvS rate lev ms k) (ms.getD k 0)
def lvsK (rate lev : Int) (ms : List Int) (k : Nat) : List Int := (List.range (k + 1)).map (lvS rate lev ms)
theorem lvsK_succ (rate lev : Int) (ms : List Int) (k : Nat) : lvsK rate lev ms (k + 1) = lvsK rate lev ms k ++ [lvS rate lev ms (k + 1)] := by unfold lvsK; rw [List.range_succ, List.map_append]; rfl
theorem lvsK_len (rate lev : Int) (ms : List Int) (k : Nat) : (lvsK rate lev ms k).length = k + 1 := by simp [lvsK]
theorem lvsK_get {rate lev : Int} {ms : List Int} {k i : Nat} (h : i ≤ k) : (lvsK rate lev ms k)[i]? = some (lvS rate lev ms i) := by unfold lvsK; simp [show i < k + 1 by omega]
def atS (gaps : List Int) : Nat → Int
  | 0 => gaps.getD 0 0 % 8
  | i + 1 => atS gaps i + gaps.getD (i + 1) 0 % 8 + 1
def datK (ds : List Datum) (t : Int) : Nat → Nat
  | 0 => 0
  | k + 1 => if (ds.getD k ⟨0, ⟨0, 0⟩⟩).start ≤ t then k else datK ds t k
def shV (g : Gauge) (x : Truth) (d : Nat) (v : Int) : Int :=
  if d < g.datums.length then
    let s := (g.datums.getD d ⟨0, ⟨0, 0⟩⟩).shift
    if d < x.shifts.length then W64 (W64 (v + s.lo) + (W64 (W64 (s.hi - s.lo) * x.shifts.getD d 0)).tdiv 255) else W64 (v + s.lo)
  else v
def erV (g : Gauge) (x : Truth) (i : Nat) (v : Int) : Int := if i < x.errs.length then W64 (v + (W64 (g.err * max (x.errs.getD i 0) (-127))).tdiv 127) else v
def mkR (g : Gauge) (x : Truth) (i : Nat) : Reading := ⟨x.start + atS x.gaps i, erV g x i (shV g x (datK g.datums (x.start + atS x.gaps i) g.datums.length) (lvS g.rate x.level x.moves (atS x.gaps i).toNat))⟩
def mkRs (g : Gauge) (x : Truth) (k : Nat) : List Reading := (List.range k).map (mkR g x)
theorem mkRs_succ (g : Gauge) (x : Truth) (k : Nat) : mkRs g x (k + 1) = mkRs g x k ++ [mkR g x k] := by unfold mkRs; rw [List.range_succ, List.map_append]; rfl
theorem mkRs_len (g : Gauge) (x : Truth) (k : Nat) : (mkRs g x k).length = k := by simp [mkRs]
theorem readC_len (r : Reading) : (readC r).length = 2 := rfl
theorem atS_nonneg {gaps : List Int} : ∀ i, 0 ≤ atS gaps i
  | 0 => Int.emod_nonneg _ (by decide)
  | i + 1 => by
    have := atS_nonneg (gaps := gaps) i
    have := Int.emod_nonneg (gaps.getD (i + 1) 0) (show (8 : Int) ≠ 0 by decide)
    unfold atS; omega
theorem wrap_tdiv {a b : Int} (hb : 1 < b) (ha : I64 a) : -9223372036854775807 ≤ a.tdiv b ∧ a.tdiv b ≤ 9223372036854775807 := by
  have h1 := Int.natAbs_tdiv_le_natAbs a b
  unfold I64 at ha
  rcases Int.lt_or_le a 0 with h | h
  · have h2 : (-a).tdiv b = (-a) / b := Int.tdiv_eq_ediv_of_nonneg (by omega)
    have h3 : (-a) / b < -a := Int.ediv_lt_self_of_pos_of_ne_one (by omega) (by omega)
    have h4 : a.tdiv b = -((-a).tdiv b) := by rw [Int.neg_tdiv, Int.neg_neg]
    have h5 : 0 ≤ (-a) / b := Int.ediv_nonneg (by omega) (by omega)
    omega
  · omega
theorem w64_i64 (a : Int) : I64 (W64 a) := by
  have := bounds_i64 (wf_wrap .i64 a)
  unfold I64 W64; omega
theorem w64_in {a : Int} (h : I64 a) : W64 a = a := wrap_in h
structure TruthOk (x : Truth) : Prop where
  start : Bd x.start 0 199800
  len : x.moves.length < 150
  level : Bd x.level (-20000) 20000
/-! ### no number wraps -/
theorem nextL_bd (rate l m : Int) : Bd (nextL rate l m) (-20000) 20000 := by unfold nextL; omega
theorem lvS_bd {rate lev : Int} (h : Bd lev (-20000) 20000) (ms : List Int) : ∀ k, Bd (lvS rate lev ms k) (-20000) 20000
  | 0 => h
  | k + 1 => nextL_bd _ _ _
theorem tdiv_abs {a b c : Int} (hb : 0 < b) (h : Bd a (-(c * b)) (c * b)) : Bd (a.tdiv b) (-c) c := by
  rcases Int.le_total 0 a with h0 | h0
  · rw [Int.tdiv_eq_ediv_of_nonneg h0]
    have h1 := Int.ediv_nonneg h0 (show 0 ≤ b by omega)
    have h2 : a / b ≤ c := Int.ediv_le_of_le_mul hb h.2
    exact ⟨by omega, h2⟩
  · have e : a.tdiv b = -((-a) / b) := by
      rw [← Int.tdiv_eq_ediv_of_nonneg (show 0 ≤ -a by omega), Int.neg_tdiv, Int.neg_neg]
    have h1 := Int.ediv_nonneg (show 0 ≤ -a by omega) (show 0 ≤ b by omega)
    have h2 : (-a) / b ≤ c := Int.ediv_le_of_le_mul hb (by omega)
    rw [e]
    exact ⟨by omega, by omega⟩
theorem share127 {r m : Int} (hr : Bd r 0 5000) (hm : Bd m (-128) 127) : W64 (r * max m (-127)) = r * max m (-127) ∧ Bd ((r * max m (-127)).tdiv 127) (-r) r := by
  have h1 : r * max m (-127) ≤ r * 127 := Int.mul_le_mul_of_nonneg_left (by omega) hr.1
  have h2 : r * (-127) ≤ r * max m (-127) := Int.mul_le_mul_of_nonneg_left (by omega) hr.1
  refine ⟨wrap_in ⟨by omega, by omega⟩, tdiv_abs (by decide) ⟨by omega, by omega⟩⟩
theorem nextL_near {r l m : Int} (hr : Bd r 0 5000) (hm : Bd m (-128) 127) (hl : Bd l (-20000) 20000) : Bd (nextL r l m - l) (-r) r := by
  obtain ⟨h1, h2⟩ := share127 hr hm
  unfold nextL
  rw [h1, w64_in (a := l + (r * max m (-127)).tdiv 127) ⟨by omega, by omega⟩]
  exact ⟨by omega, by omega⟩
theorem getD_mem_bd {l : List Int} {lo hi : Int} (h : ∀ x ∈ l, Bd x lo hi) (h0 : Bd 0 lo hi) (i : Nat) : Bd (l.getD i 0) lo hi := by
  rw [List.getD_eq_getElem?_getD]
  cases hx : l[i]? with
  | none => exact h0
  | some x => exact h x (List.mem_of_getElem? hx)
theorem lvS_near {r lev : Int} {ms : List Int} (hr : Bd r 0 5000) (hms : ∀ m ∈ ms, Bd m (-128) 127) (hl : Bd lev (-20000) 20000) (i : Nat) : ∀ k, Bd (lvS r lev ms (i + k) - lvS r lev ms i) (-(r * k)) (r * k)
  | 0 => by simp
  | k + 1 => by
    have ih := lvS_near hr hms hl i k
    have h1 := nextL_near hr (getD_mem_bd hms (show Bd 0 (-128) 127 by decide) (i + k)) (lvS_bd (rate := r) hl ms (i + k))
    have e : lvS r lev ms (i + (k + 1)) = nextL r (lvS r lev ms (i + k)) (ms.getD (i + k) 0) := rfl
    rw [e]
    have e2 : r * ((k + 1 : Nat) : Int) = r * k + r := by rw [show ((k + 1 : Nat) : Int) = (k : Int) + 1 from rfl, Int.mul_add, Int.mul_one]
    rw [e2]
    exact ⟨by omega, by omega⟩
theorem lvS_far {r lev : Int} {ms : List Int} (hr : Bd r 0 5000) (hms : ∀ m ∈ ms, Bd m (-128) 127) (hl : Bd lev (-20000) 20000) (i j : Nat) : Bd (lvS r lev ms i - lvS r lev ms j) (-(r * max ((i : Int) - j) (j - i))) (r * max ((i : Int) - j) (j - i)) := by
  rcases Nat.le_total i j with h | h
  · have := lvS_near hr hms hl i (j - i)
    rw [show i + (j - i) = j by omega] at this
    rw [show max ((i : Int) - j) (j - i) = ((j - i : Nat) : Int) by omega]
    exact ⟨by omega, by omega⟩
  · have := lvS_near hr hms hl j (i - j)
    rw [show j + (i - j) = i by omega] at this
    rw [show max ((i : Int) - j) (j - i) = ((i - j : Nat) : Int) by omega]
    exact this
theorem datK_eq {ds : List Datum} {t : Int} (hp : ds.Pairwise fun a b => a.start < b.start) : ∀ k, k ≤ ds.length → datK ds t k = min k (cntD ds t) - 1
  | 0, _ => by simp [datK]
  | k + 1, h => by
    have ih := datK_eq (t := t) hp k (by omega)
    obtain ⟨d, hd⟩ : ∃ d, ds[k]? = some d := ⟨ds[k], by simp [show k < ds.length by omega]⟩
    unfold datK
    rw [getD_hit hd]
    split
    · rename_i h1
      have : k < cntD ds t := Nat.lt_of_not_le fun h2 => by have := cntD_ge ds t k d hp hd h2; omega
      omega
    · rename_i h1
      have : cntD ds t ≤ k := Nat.le_of_not_lt fun h2 => h1 (cntD_lt ds t k d hd h2)
      omega
theorem datK_datI {g : Gauge} (h : GaugeOk g) {t : Int} : datK g.datums t g.datums.length = datI g.datums t := by
  rw [datK_eq h.asc _ (Nat.le_refl _)]
  have := cntD_le g.datums t
  unfold datI; omega
/-- The number in a shift. -/
def shN (g : Gauge) (x : Truth) (d : Nat) : Int :=
  let s := (g.datums.getD d ⟨0, ⟨0, 0⟩⟩).shift
  if d < x.shifts.length then s.lo + (s.hi - s.lo) * x.shifts.getD d 0 / 255 else s.lo
theorem shN_bd {g : Gauge} {x : Truth} {d : Nat} {e : Datum} (hd : g.datums[d]? = some e) (he : DatumOk e) (hs : ∀ s ∈ x.shifts, Bd s 0 255) : e.shift.lo ≤ shN g x d ∧ shN g x d ≤ e.shift.hi := by
  unfold shN
  rw [getD_hit hd]
  have h := he.shift
  simp only []
  split
  · exact share_bd h.2.1 (getD_mem_bd hs (by decide) d)
  · omega
theorem shV_eq {g : Gauge} {x : Truth} {d : Nat} {v : Int} {e : Datum} (hd : g.datums[d]? = some e) (he : DatumOk e) (hs : ∀ s ∈ x.shifts, Bd s 0 255) (hv : Bd v (-20000) 20000) : shV g x d v = v + shN g x d := by
  have h := he.shift
  have hlt := (List.getElem?_eq_some_iff.1 hd).1
  unfold shV shN
  rw [if_pos hlt, getD_hit hd]
  simp only []
  split
  · have hb := getD_mem_bd hs (show Bd 0 0 255 by decide) d
    have h1 : 0 ≤ (e.shift.hi - e.shift.lo) * x.shifts.getD d 0 := Int.mul_nonneg (by omega) hb.1
    have h2 : (e.shift.hi - e.shift.lo) * x.shifts.getD d 0 ≤ (e.shift.hi - e.shift.lo) * 255 := Int.mul_le_mul_of_nonneg_left hb.2 (by omega)
    have h3 := share_bd h.2.1 hb
    rw [w64_in (a := e.shift.hi - e.shift.lo) ⟨by omega, by omega⟩, w64_in (a := (e.shift.hi - e.shift.lo) * x.shifts.getD d 0) ⟨by omega, by omega⟩, Int.tdiv_eq_ediv_of_nonneg h1, w64_in (a := v + e.shift.lo) ⟨by omega, by omega⟩, w64_in ⟨by omega, by omega⟩]
    omega
  · rw [w64_in ⟨by omega, by omega⟩]
theorem erV_eq {g : Gauge} {x : Truth} {i : Nat} {v : Int} (he : Bd g.err 0 5000) (hs : ∀ s ∈ x.errs, Bd s (-128) 127) (hv : Bd v (-40000) 40000) : Bd (erV g x i v - v) (-g.err) g.err := by
  unfold erV
  split
  · obtain ⟨h1, h2⟩ := share127 he (getD_mem_bd hs (show Bd 0 (-128) 127 by decide) i)
    rw [h1, w64_in ⟨by omega, by omega⟩]
    exact ⟨by omega, by omega⟩
  · exact ⟨by omega, by omega⟩
/-- What was made: a gauge with readings of the levels. -/
structure Made (g : Gauge) (x : Truth) (y : Gauge) (K : Nat) : Prop where
  tr : TruthOk x
  y_eq : y = { g with readings := mkRs g x K }
  at_ : ∀ i, i < K → atS x.gaps i < x.moves.length + 1
structure SharesOk (x : Truth) : Prop where
  moves : ∀ m ∈ x.moves, Bd m (-128) 127
  shifts : ∀ s ∈ x.shifts, Bd s 0 255
  errs : ∀ s ∈ x.errs, Bd s (-128) 127
theorem Made.reading {g : Gauge} {x : Truth} {y : Gauge} {K : Nat} (h : Made g x y K) (hs : SharesOk x) (hy : GaugeOk y) {r : Reading} (hr : r ∈ y.readings) {i : Nat} :
    (readSpan y (x.start + i) r).lo ≤ lvS y.rate x.level x.moves i ∧ lvS y.rate x.level x.moves i ≤ (readSpan y (x.start + i) r).hi := by
  obtain ⟨htr, rfl, hat⟩ := h
  obtain ⟨j, hj, rfl⟩ := List.mem_map.1 hr
  rw [List.mem_range] at hj
  have h0 := atS_nonneg (gaps := x.gaps) j
  obtain ⟨n, hn⟩ := Int.eq_ofNat_of_zero_le h0
  have hlb := lvS_bd (rate := g.rate) htr.level x.moves n
  have hfar := lvS_far hy.rate hs.moves htr.level i n
  have hst := htr.start
  obtain ⟨d, hd1, hd2, hd3⟩ := datum_at hy (t := x.start + (n : Int)) (by omega)
  have hd1 : g.datums[datI g.datums (x.start + (n : Int))]? = some d := hd1
  have hsh := shV_eq (g := g) (x := x) (v := lvS g.rate x.level x.moves n) hd1 hd3 hs.shifts hlb
  have hsn := shN_bd (g := g) (x := x) hd1 hd3 hs.shifts
  have hdb := hd3.shift
  have her := erV_eq (g := g) (x := x) (i := j) (v := lvS g.rate x.level x.moves n + shN g x (datI g.datums (x.start + (n : Int)))) hy.err hs.errs ⟨by omega, by omega⟩
  have hk : datK g.datums (x.start + (n : Int)) g.datums.length = datI g.datums (x.start + (n : Int)) := datK_datI (g := { g with readings := mkRs g x K }) hy
  have hmk : mkR g x j = ⟨x.start + (n : Int), erV g x j (lvS g.rate x.level x.moves n + shN g x (datI g.datums (x.start + (n : Int))))⟩ := by
    unfold mkR
    rw [hn, hk, Int.toNat_natCast, hsh]
  rw [hmk]
  generalize erV g x j (lvS g.rate x.level x.moves n + shN g x (datI g.datums (x.start + (n : Int)))) = v at her
  unfold readSpan around farR
  rw [← hd2]
  simp only []
  have e1 : max (x.start + (i : Int) - (x.start + (n : Int))) (x.start + (n : Int) - (x.start + (i : Int))) = max ((i : Int) - n) (n - i) := by omega
  rw [e1]
  have hfar' : Bd (lvS g.rate x.level x.moves i - lvS g.rate x.level x.moves n) (-(g.rate * max ((i : Int) - n) (n - i))) (g.rate * max ((i : Int) - n) (n - i)) := hfar
  have hge : Bd (v - (lvS g.rate x.level x.moves n + shN g x (datI g.datums (x.start + (n : Int))))) (-g.err) g.err := her
  generalize g.rate * max ((i : Int) - n) (n - i) = far at hfar' ⊢
  generalize shN g x (datI g.datums (x.start + (n : Int))) = sh at *
  generalize lvS g.rate x.level x.moves i = li at *
  generalize lvS g.rate x.level x.moves n = ln at *
  constructor
  · show v - (g.err + far) - d.shift.hi ≤ li
    omega
  · show li ≤ v + (g.err + far) - d.shift.lo
    omega
theorem Made.cuts {g : Gauge} {x : Truth} {y : Gauge} {K : Nat} (h : Made g x y K) (hs : SharesOk x) (hy : GaugeOk y) (i : Nat) (now : Int) :
    (cuts y (x.start + i) (known y.readings now)).lo ≤ lvS y.rate x.level x.moves i ∧ lvS y.rate x.level x.moves i ≤ (cuts y (x.start + i) (known y.readings now)).hi := by
  have hb := lvS_bd (rate := y.rate) h.tr.level x.moves i
  rw [cuts_lo, cuts_hi]
  exact ⟨⟨hb.1, fun r hr => (h.reading hs hy (mem_known.1 hr).1).1⟩, ⟨hb.2, fun r hr => (h.reading hs hy (mem_known.1 hr).1).2⟩⟩
theorem saysE_good2 {y : Gauge} {t now : Int} (h : (checkG y).2.2 = 0) (ht : Bd t 0 200000) (hn : Bd now 0 200000) : saysE y t now = 0 := by
  unfold saysE
  rw [if_pos h]
  unfold ticksE
  rw [if_neg]
  simp only [List.any_cons, List.any_nil, Bool.or_false, Bool.not_eq_true, Bool.or_eq_false_iff, outB_false]
  exact ⟨ht, hn⟩
/-- By whatever is known the level is in what the gauge says. -/
theorem Made.says {g : Gauge} {x : Truth} {y : Gauge} {K : Nat} (h : Made g x y K) (hs : SharesOk x) (hy : (checkG y).2.2 = 0) {i : Nat} (hi : i < 150) {now : Int} (hn : Bd now 0 200000) :
    (known y.readings now = [] ∧ (saysF y (x.start + i) now).2 = 4) ∨ (known y.readings now ≠ [] ∧ (saysF y (x.start + i) now).2 = 0 ∧ hasB (saysF y (x.start + i) now).1 (lvS y.rate x.level x.moves i) = true) := by
  have hok := gaugeOk_of hy
  have hst := h.tr.start
  have hE := saysE_good2 (t := x.start + (i : Int)) hy ⟨by omega, by omega⟩ hn
  have hF : saysF y (x.start + i) now = saysG y (x.start + i) now := by unfold saysF; rw [if_neg (fun k => k hE)]
  have hc := h.cuts hs hok i now
  rw [hF]
  unfold saysG saysL
  by_cases hk : known y.readings now = []
  · rw [if_pos hk]; exact .inl ⟨hk, rfl⟩
  · rw [if_neg hk, if_neg (by omega)]
    exact .inr ⟨hk, rfl, hasB_iff.2 hc⟩
theorem known_nil {rs : List Reading} {a b : Int} (h : a ≤ b) (hb : known rs b = []) : known rs a = [] := by
  rw [List.eq_nil_iff_forall_not_mem] at hb ⊢
  exact fun r hr => hb r (known_more h r hr)
end Bx
namespace Bx
open Go Go.RowKit
def atP (gaps : List Int) : Nat → Int
  | 0 => 0
  | k + 1 => atS gaps k
theorem atS_here {gaps : List Int} {k : Nat} {e : Int} (h : gaps.getD k 0 = e) : atS gaps k = if (0 : Int) < k then atP gaps k + e % 8 + 1 else atP gaps k + e % 8 := by
  subst h
  cases k with
  | zero => simp [atS, atP]
  | succ k => rw [if_pos (by omega)]; rfl
theorem StX.toRow {S : List Nat} {w0 w : World} {L : List Item} {b : Nat} {cs : List Value} {T : TypeId} (h : StX S w0 w (blk b cs T :: L)) (k n : Nat) (hl : cs.length = n * k) (hn : n ≤ 1000000) : StX S w0 w (rowI (.slice (some ⟨b, 0, none⟩) n n) T k n cs :: L) := by
  refine ⟨h.extx, ?_, h.own, h.apart⟩
  intro it hit
  rcases List.mem_cons.1 hit with rfl | hi
  · refine ⟨hl, .inr ⟨b, n, cs.toArray, rfl, Nat.zero_le _, h.at b, Nat.le_refl _, by simp only [maxLen]; omega, by simpa using hl, ?_⟩⟩
    show cs.take (n * k) = cs
    rw [← hl, List.take_length]
  · exact h.ok it (List.mem_cons_of_mem _ hi)
theorem yQuoC {P : Program} {ρ : Operand → Value} {w : World} {ty : TypeId} {x y : Operand} {a b : Int} {t t' : TypeId} (hx : ρ x = .int .i64 a) (hy : ρ y = .int .i64 b) (hb : 1 < b) (ha : I64 a) : Y P ρ (.binOp .quo t x y t') ty w (.int .i64 (a.tdiv b)) w := by
  have h0 : b ≠ 0 := by omega
  have e : IntKind.i64.wrap (a.tdiv b) = a.tdiv b := by
    have := wrap_tdiv hb ha
    exact w64_in ⟨by omega, by omega⟩
  simp [Y, xop, execOp, hx, hy, eqGuard, binOp, Op.intDiv, h0, e]
end Bx
namespace Bx
open Go Go.RowKit
theorem mkR_i64 {g : Gauge} {x : Truth} {i : Nat} (h : TruthOk x) (ha : atS x.gaps i < x.moves.length + 1) : I64 (mkR g x i).tick ∧ I64 (mkR g x i).value := by
  have h0 := atS_nonneg (gaps := x.gaps) i
  have hs := h.start
  have hl := h.len
  refine ⟨⟨by show _ ≤ x.start + atS x.gaps i; omega, by show x.start + atS x.gaps i ≤ _; omega⟩, ?_⟩
  have hb := lvS_bd (rate := g.rate) h.level x.moves (atS x.gaps i).toNat
  have h1 : ∀ d v, I64 v → I64 (shV g x d v) := by
    intro d v hv
    unfold shV
    simp only []
    split
    · split <;> exact w64_i64 _
    · exact hv
  have h2 : ∀ v, I64 v → I64 (erV g x i v) := by
    intro v hv
    unfold erV
    split
    · exact w64_i64 _
    · exact hv
  exact h2 _ (h1 _ _ ⟨by omega, by omega⟩)
theorem shares_of {w : World} {cs : List Value} {x : Truth} (h : RTruth w cs x) : SharesOk x := by
  obtain ⟨mv, gv, sv, ev, _, _, _, hm, _, hs, he⟩ := h
  have key8 : ∀ {v : Value} {l : List Int}, Sl w 1 RI8 v l → ∀ m ∈ l, Bd m (-128) 127 := by
    intro v l hl m hm
    obtain ⟨a, cap, _, _, _, hel⟩ := hl
    obtain ⟨i, hi, rfl⟩ := List.mem_iff_getElem.1 hm
    obtain ⟨b, o, cs, _, _, _, hR⟩ := hel i hi
    exact ⟨hR.2.1, hR.2.2⟩
  have keyU : ∀ {v : Value} {l : List Int}, Sl w 1 RU8 v l → ∀ m ∈ l, Bd m 0 255 := by
    intro v l hl m hm
    obtain ⟨a, cap, _, _, _, hel⟩ := hl
    obtain ⟨i, hi, rfl⟩ := List.mem_iff_getElem.1 hm
    obtain ⟨b, o, cs, _, _, _, hR⟩ := hel i hi
    exact ⟨hR.2.1, hR.2.2⟩
  exact ⟨key8 hm, keyU hs, key8 he⟩
end Bx
namespace Bx
open Go Go.RowKit
theorem StX.call2 {S : List Nat} {w0 w w' : World} {L : List Item} {a b : Item} (h : StX S w0 w L) (hM : St w w' [a, b]) : StX S w0 w' (a :: b :: L) := h.call hM
end Bx
