/- Gauges: data, what is wrong with one, the datum of a reading. -/
import Derived.Test.YtpgmehignepidaaP3
set_option linter.all false
namespace Bx
open Go Go.RowKit
structure Datum where
  start : Int
  shift : Span
structure Reading where
  tick : Int
  value : Int
structure Gauge where
  name : ByteArray
  err : Int
  rate : Int
  datums : List Datum
  readings : List Reading
def datumC (d : Datum) : List Value := [.int .i64 d.start, .int .i64 d.shift.lo, .int .i64 d.shift.hi]
def readC (r : Reading) : List Value := [.int .i64 r.tick, .int .i64 r.value]
def RDatum (_ : World) (cs : List Value) (d : Datum) : Prop := cs = datumC d ∧ I64 d.start ∧ I64 d.shift.lo ∧ I64 d.shift.hi
def RRead (_ : World) (cs : List Value) (r : Reading) : Prop := cs = readC r ∧ I64 r.tick ∧ I64 r.value
theorem RDatum.stays : Stays RDatum := fun _ _ _ _ _ h => h
theorem RRead.stays : Stays RRead := fun _ _ _ _ _ h => h
def RGauge (w : World) (cs : List Value) (g : Gauge) : Prop := ∃ dv rv, cs = [.string g.name, .int .i64 g.err, .int .i64 g.rate, dv, rv] ∧ g.name.size ≤ 9223372036854775807 ∧ I64 g.err ∧ I64 g.rate ∧ Sl w 3 RDatum dv g.datums ∧ Sl w 2 RRead rv g.readings
theorem RGauge.stays : Stays RGauge := fun _ _ _ _ e ⟨dv, rv, h1, h2, h3, h4, h5, h6⟩ => ⟨dv, rv, h1, h2, h3, h4, h5.ext RDatum.stays e, h6.ext RRead.stays e⟩
theorem RGauge.ext {w w' : World} {cs : List Value} {g : Gauge} (h : RGauge w cs g) (e : Ext w w') : RGauge w' cs g := RGauge.stays _ _ _ _ e h
/-! ### what is wrong with a gauge -/
def gErr (g : Gauge) : Int := if (!isName g.name) = true then 6 else if (outB g.err 0 5000 || outB g.rate 0 5000) = true then 7 else 0
theorem gErr_eq (g : Gauge) (g1 g2 : Nat) (k1 k2 : List Value) : firstE [⟨g1, k1, 6, !isName g.name⟩, ⟨g2, k2, 7, outB g.err 0 5000 || outB g.rate 0 5000⟩] = gErr g := rfl
def datBad (b : Int) (i : Nat) (d : Datum) : Bool := outB d.start (b + 1) 200000 || (decide ((i : Int) = 0) && decide (0 < d.start)) || outB d.shift.hi (-5000) 5000 || outB d.shift.lo (-5000) d.shift.hi
def readBad (b : Int) (r : Reading) : Bool := outB r.tick (b + 1) 200000 || outB r.value (-30000) 30000
def checkD (rest : Int × Int × Int) : List Datum → Int → Nat → Int × Int × Int
  | [], _, _ => rest
  | d :: ds, b, i => if datBad b i d = true then (2, i, 7) else checkD rest ds d.start (i + 1)
def checkR : List Reading → Int → Nat → Int × Int × Int
  | [], _, _ => (0, 0, 0)
  | r :: rs, b, i => if readBad b r = true then (3, i, 7) else checkR rs r.tick (i + 1)
def checkRs (g : Gauge) : Int × Int × Int := if (60 : Int) < g.readings.length then (3, 0, 3) else checkR g.readings (-1) 0
def checkG (g : Gauge) : Int × Int × Int := if gErr g ≠ 0 then (1, 0, gErr g) else if outB g.datums.length 1 8 = true then (2, 0, 3) else checkD (checkRs g) g.datums (-1) 0
theorem datBad_iff {b : Int} {i : Nat} {d : Datum} : datBad b i d = false ↔ b + 1 ≤ d.start ∧ d.start ≤ 200000 ∧ ((i : Int) = 0 → d.start ≤ 0) ∧ -5000 ≤ d.shift.lo ∧ d.shift.lo ≤ d.shift.hi ∧ d.shift.hi ≤ 5000 := by
  simp only [datBad, Bool.or_eq_false_iff, outB_false, Bool.and_eq_false_iff, decide_eq_false_iff_not]
  constructor
  · rintro ⟨⟨⟨h1, h2⟩, h3⟩, h4⟩
    refine ⟨h1.1, h1.2, fun h => ?_, h4.1, h4.2, h3.2⟩
    rcases h2 with h2 | h2 <;> omega
  · rintro ⟨h1, h2, h3, h4, h5, h6⟩
    refine ⟨⟨⟨⟨h1, h2⟩, ?_⟩, by omega⟩, by omega⟩
    by_cases h : (i : Int) = 0
    · exact .inr (by have := h3 h; omega)
    · exact .inl h
theorem readBad_iff {b : Int} {r : Reading} : readBad b r = false ↔ b + 1 ≤ r.tick ∧ r.tick ≤ 200000 ∧ -30000 ≤ r.value ∧ r.value ≤ 30000 := by
  simp only [readBad, Bool.or_eq_false_iff, outB_false]; omega
structure DatumOk (d : Datum) : Prop where
  start : Bd d.start 0 200000
  shift : -5000 ≤ d.shift.lo ∧ d.shift.lo ≤ d.shift.hi ∧ d.shift.hi ≤ 5000
structure ReadOk (r : Reading) : Prop where
  tick : Bd r.tick 0 200000
  value : Bd r.value (-30000) 30000
structure GaugeOk (g : Gauge) : Prop where
  err : Bd g.err 0 5000
  rate : Bd g.rate 0 5000
  len : 1 ≤ g.datums.length ∧ g.datums.length ≤ 8
  datums : ∀ d ∈ g.datums, DatumOk d
  first : ∀ d, g.datums[0]? = some d → d.start = 0
  asc : g.datums.Pairwise fun a b => a.start < b.start
  rlen : g.readings.length ≤ 60
  reads : ∀ r ∈ g.readings, ReadOk r
  rasc : g.readings.Pairwise fun a b => a.tick < b.tick
theorem checkR_ok : ∀ (rs : List Reading) (b : Int) (i : Nat), -1 ≤ b → (checkR rs b i).2.2 = 0 → (∀ r ∈ rs, ReadOk r ∧ b < r.tick) ∧ rs.Pairwise (fun a b => a.tick < b.tick)
  | [], _, _, _, _ => ⟨fun _ h => (by cases h), .nil⟩
  | r :: rs, b, i, hb, h => by
    unfold checkR at h
    split at h
    · exact absurd h (show ¬ (7 : Int) = 0 by decide)
    · rename_i h1
      rw [Bool.not_eq_true, readBad_iff] at h1
      have ih := checkR_ok rs r.tick (i + 1) (by omega) h
      refine ⟨?_, List.pairwise_cons.2 ⟨fun x hx => (ih.1 x hx).2, ih.2⟩⟩
      intro x hx
      rcases List.mem_cons.1 hx with rfl | hx
      · exact ⟨⟨⟨by omega, by omega⟩, ⟨by omega, by omega⟩⟩, by omega⟩
      · exact ⟨(ih.1 x hx).1, by have := (ih.1 x hx).2; omega⟩
theorem checkD_ok (rest : Int × Int × Int) : ∀ (ds : List Datum) (b : Int) (i : Nat), -1 ≤ b → (checkD rest ds b i).2.2 = 0 → rest.2.2 = 0 ∧ (∀ d ∈ ds, DatumOk d ∧ b < d.start) ∧ ds.Pairwise (fun a b => a.start < b.start) ∧ (i = 0 → ∀ d, ds[0]? = some d → d.start = 0)
  | [], _, _, _, h => ⟨h, fun _ h => (by cases h), .nil, fun _ d h => (by cases h)⟩
  | d :: ds, b, i, hb, h => by
    unfold checkD at h
    split at h
    · exact absurd h (show ¬ (7 : Int) = 0 by decide)
    · rename_i h1
      rw [Bool.not_eq_true, datBad_iff] at h1
      have ih := checkD_ok rest ds d.start (i + 1) (by omega) h
      refine ⟨ih.1, ?_, List.pairwise_cons.2 ⟨fun x hx => (ih.2.1 x hx).2, ih.2.2.1⟩, ?_⟩
      · intro x hx
        rcases List.mem_cons.1 hx with rfl | hx
        · exact ⟨⟨⟨by omega, by omega⟩, by omega⟩, by omega⟩
        · exact ⟨(ih.2.1 x hx).1, by have := (ih.2.1 x hx).2; omega⟩
      · intro hi x hx
        obtain rfl : d = x := by simpa using hx
        have := h1.2.2.1 (by omega)
        omega
theorem gaugeOk_of {g : Gauge} (h : (checkG g).2.2 = 0) : GaugeOk g := by
  unfold checkG at h
  split at h
  · rename_i h1; exact absurd h h1
  rename_i h1
  split at h
  · exact absurd h (by decide)
  rename_i h2
  rw [Bool.not_eq_true, outB_false] at h2
  have hd := checkD_ok _ _ _ _ (by omega) h
  obtain ⟨h3, h4, h5, h6⟩ := hd
  have he : gErr g = 0 := Decidable.not_not.1 h1
  unfold gErr at he
  split at he
  · exact absurd he (by decide)
  split at he
  · exact absurd he (by decide)
  rename_i h7
  simp only [Bool.not_eq_true, Bool.or_eq_false_iff, outB_false] at h7
  unfold checkRs at h3
  split at h3
  · exact absurd h3 (by decide)
  rename_i h8
  have hr := checkR_ok _ _ _ (by omega) h3
  exact ⟨h7.1, h7.2, by omega, fun d hd => (h4 d hd).1, h6 rfl, h5, by omega, fun r hr' => (hr.1 r hr').1, hr.2⟩
/-! ### the datum of a reading -/
/-- The number of datums that begin at a tick or before. -/
def cntD (ds : List Datum) (t : Int) : Nat := (ds.takeWhile fun d => decide (d.start ≤ t)).length
def datI (ds : List Datum) (t : Int) : Nat := cntD ds t - 1
theorem cntD_le (ds : List Datum) (t : Int) : cntD ds t ≤ ds.length := (List.takeWhile_prefix _).length_le
theorem cntD_lt : ∀ (ds : List Datum) (t : Int) (i : Nat) (d : Datum), ds[i]? = some d → i < cntD ds t → d.start ≤ t
  | [], _, i, d, h, _ => by cases h
  | x :: ds, t, i, d, h, hi => by
    unfold cntD at hi
    rw [List.takeWhile_cons] at hi
    split at hi
    · rename_i hx
      cases i with
      | zero => obtain rfl : x = d := by simpa using h
                simpa using hx
      | succ i => exact cntD_lt ds t i d (by simpa using h) (by simpa [cntD] using hi)
    · simp at hi
theorem cntD_ge : ∀ (ds : List Datum) (t : Int) (i : Nat) (d : Datum), ds.Pairwise (fun a b => a.start < b.start) → ds[i]? = some d → cntD ds t ≤ i → t < d.start
  | [], _, i, d, _, h, _ => by cases h
  | x :: ds, t, i, d, hp, h, hi => by
    unfold cntD at hi
    rw [List.takeWhile_cons] at hi
    obtain ⟨h1, h2⟩ := List.pairwise_cons.1 hp
    split at hi
    · cases i with
      | zero => simp at hi
      | succ i => exact cntD_ge ds t i d h2 (by simpa using h) (by simpa [cntD] using hi)
    · rename_i hx
      have hx' : t < x.start := by simpa using hx
      cases i with
      | zero => obtain rfl : x = d := by simpa using h
                exact hx'
      | succ i =>
        have := h1 d (List.mem_of_getElem? (by simpa using h))
        omega
theorem cntD_pos {ds : List Datum} {t : Int} (h : 1 ≤ ds.length) (h0 : ∀ d, ds[0]? = some d → d.start = 0) (ht : 0 ≤ t) : 0 < cntD ds t := by
  cases ds with
  | nil => simp at h
  | cons x ds =>
    have := h0 x rfl
    unfold cntD
    rw [List.takeWhile_cons, if_pos (by simp; omega)]
    simp
theorem datI_lt {g : Gauge} (h : GaugeOk g) {t : Int} (ht : 0 ≤ t) : datI g.datums t < g.datums.length := by
  have h1 := cntD_pos h.len.1 h.first ht
  have h2 := cntD_le g.datums t
  unfold datI; omega
theorem asc_get {ds : List Datum} (h : ds.Pairwise fun a b => a.start < b.start) {i j : Nat} {a b : Datum} (hi : ds[i]? = some a) (hj : ds[j]? = some b) (hij : i < j) : a.start < b.start := by
  obtain ⟨h1, rfl⟩ := List.getElem?_eq_some_iff.1 hi
  obtain ⟨h2, rfl⟩ := List.getElem?_eq_some_iff.1 hj
  exact List.pairwise_iff_getElem.1 h i j h1 h2 hij
theorem asc_le {ds : List Datum} (h : ds.Pairwise fun a b => a.start < b.start) {i j : Nat} {a b : Datum} (hi : ds[i]? = some a) (hj : ds[j]? = some b) (hij : i ≤ j) : a.start ≤ b.start := by
  rcases Nat.lt_or_eq_of_le hij with h1 | rfl
  · have := asc_get h hi hj h1; omega
  · rw [hi] at hj; obtain rfl : a = b := by simpa using hj
    omega
def cmpI (a b : Int) : Int := if a < b then -1 else if b < a then 1 else 0
theorem cmpI_lt {a b : Int} : cmpI a b < 0 ↔ a < b := by unfold cmpI; split <;> (try split) <;> omega
theorem cmpI_eq {a b : Int} : cmpI a b = 0 ↔ a = b := by unfold cmpI; split <;> (try split) <;> omega
/-- What a search in a list that ascends finds. -/
def searchD (ds : List Datum) (t : Int) (i : Nat) (is : Bool) : Prop := i ≤ ds.length ∧ (∀ k d, ds[k]? = some d → k < i → d.start < t) ∧ (∀ k d, ds[k]? = some d → i ≤ k → t ≤ d.start) ∧ (is = true ↔ ∃ d, ds[i]? = some d ∧ d.start = t)
theorem searchD_datI {ds : List Datum} {t : Int} {i : Nat} {is : Bool} (h : searchD ds t i is) (hp : ds.Pairwise fun a b => a.start < b.start) (hc : 0 < cntD ds t) : (if is = true then (i : Int) else (i : Int) - 1) = (datI ds t : Int) := by
  obtain ⟨h1, h2, h3, h4⟩ := h
  have hle := cntD_le ds t
  have hlt : ∀ k d, ds[k]? = some d → k < cntD ds t → d.start ≤ t := fun k d => cntD_lt ds t k d
  have hge : ∀ k d, ds[k]? = some d → cntD ds t ≤ k → t < d.start := fun k d => cntD_ge ds t k d hp
  have get : ∀ k, k < ds.length → ∃ d, ds[k]? = some d := fun k hk => ⟨ds[k], by simp [hk]⟩
  have hi : i ≤ cntD ds t := by
    rcases Nat.lt_or_ge (cntD ds t) i with h | h
    · obtain ⟨d, hd⟩ := get (cntD ds t) (by omega)
      have a := h2 _ d hd h
      have b := hge _ d hd (Nat.le_refl _)
      omega
    · exact h
  unfold datI
  cases is with
  | true =>
    obtain ⟨d, hd, e⟩ := h4.1 rfl
    have : i < cntD ds t := by
      rcases Nat.lt_or_ge i (cntD ds t) with h | h
      · exact h
      · have := hge _ d hd h; omega
    have : cntD ds t ≤ i + 1 := by
      rcases Nat.lt_or_ge (i + 1) (cntD ds t) with h | h
      · obtain ⟨d', hd'⟩ := get (i + 1) (by omega)
        have a := hlt _ d' hd' h
        have b := asc_get hp hd hd' (by omega)
        omega
      · exact h
    rw [if_pos rfl]; omega
  | false =>
    have : cntD ds t ≤ i := by
      rcases Nat.lt_or_ge i (cntD ds t) with h | h
      · obtain ⟨d', hd'⟩ := get i (by omega)
        have a := hlt _ d' hd' h
        have b := h3 _ d' hd' (Nat.le_refl _)
        have := h4.2 ⟨d', hd', by omega⟩
        cases this
      · exact h
    rw [if_neg (by decide)]; omega
end Bx
