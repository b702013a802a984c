/- What came in, read as data: integers, strings, slices, structs, arrays. -/
import Derived.Test.YtpgmehignepidaaLib9
import Derived.Deep.Slices
import Derived.OpenShut
set_option linter.all false
namespace Bx
open Go Go.RowKit Go.ChangeShapes Go.WideShapes
/-- Whatever the model's reader reads at type t, reads as R. -/
def Rd {α : Type} (P : Program) (t : TypeId) (R : World → List Value → α → Prop) : Prop :=
  ∀ (H : Type) (enc : TypeId × Value → H) (w : World) (base : Nat) (spare : Nat → Bool) (held : Bool) (fuel : Nat) (cs : List Value) (x : DataW H × List MemPlace), DataW.trod enc P w base spare held fuel t cs = some x → ∃ a, R w cs a
section
variable {P : Program} {t e : TypeId}
theorem i64_of_wf {n : Int} (h : (Lit.int .i64 n).wf = true) : I64 n := by
  have := bounds_i64 h
  unfold I64; omega
theorem rd_int (ht : P.underlying t = some (.int .i64)) : Rd P t RInt := by
  intro H enc w base spare held fuel cs x h
  obtain ⟨n, rfl, _, hw⟩ := DataW.trod_int ht h
  exact ⟨n, rfl, i64_of_wf hw⟩
def RU8 (_ : World) (cs : List Value) (n : Int) : Prop := cs = [.int .u8 n] ∧ 0 ≤ n ∧ n ≤ 255
def RI8 (_ : World) (cs : List Value) (n : Int) : Prop := cs = [.int .i8 n] ∧ -128 ≤ n ∧ n ≤ 127
theorem RU8.stays : Stays RU8 := fun _ _ _ _ _ h => h
theorem RI8.stays : Stays RI8 := fun _ _ _ _ _ h => h
theorem rd_u8 (ht : P.underlying t = some (.int .u8)) : Rd P t RU8 := by
  intro H enc w base spare held fuel cs x h
  obtain ⟨n, rfl, _, hw⟩ := DataW.trod_int ht h
  have := bounds_u8 hw
  exact ⟨n, rfl, by omega, by omega⟩
theorem rd_i8 (ht : P.underlying t = some (.int .i8)) : Rd P t RI8 := by
  intro H enc w base spare held fuel cs x h
  obtain ⟨n, rfl, _, hw⟩ := DataW.trod_int ht h
  have := bounds_i8 hw
  exact ⟨n, rfl, by omega, by omega⟩
def RStr (_ : World) (cs : List Value) (s : ByteArray) : Prop := cs = [.string s] ∧ s.size ≤ 9223372036854775807
theorem RStr.stays : Stays RStr := fun _ _ _ _ _ h => h
theorem rd_str (ht : P.underlying t = some .string) : Rd P t RStr := by
  intro H enc w base spare held fuel cs x h
  obtain ⟨s, rfl, _, hs⟩ := DataW.trod_string ht h
  exact ⟨s, rfl, by simp only [maxLen] at hs; omega⟩
def RBool (_ : World) (cs : List Value) (b : Bool) : Prop := cs = [.bool b]
theorem RBool.stays : Stays RBool := fun _ _ _ _ _ h => h
theorem rd_bool (ht : P.underlying t = some .bool) : Rd P t RBool := by
  intro H enc w base spare held fuel cs x h
  obtain ⟨b, rfl, _⟩ := DataW.trod_bool ht h
  exact ⟨b, rfl⟩
theorem list_of {α : Type} {p : Nat → α → Prop} : ∀ n, (∀ i, i < n → ∃ x, p i x) → ∃ l : List α, l.length = n ∧ ∀ i (h : i < l.length), p i l[i]
  | 0, _ => ⟨[], rfl, fun i h => absurd h (Nat.not_lt_zero i)⟩
  | n + 1, h => by
    obtain ⟨l, hl, hp⟩ := list_of n (fun i hi => h i (by omega))
    obtain ⟨x, hx⟩ := h n (by omega)
    refine ⟨l ++ [x], by simp [hl], fun i hi => ?_⟩
    rcases Nat.lt_or_ge i l.length with h1 | h1
    · rw [List.getElem_append_left h1]; exact hp i h1
    · have : i = l.length := by simp at hi; omega
      subst this
      rw [List.getElem_append_right (Nat.le_refl _)]
      simpa [hl] using hx
theorem addr_of {w : World} {a : Addr} {v : Value} (h : w.cell? a = some v) : a = ⟨a.block, a.off, none⟩ := by
  have := World.cell?_spot h
  cases a; simp_all
/-- A slice of which the reader reads each element. -/
theorem rd_slice {α : Type} {R : World → List Value → α → Prop} {k : Nat} (hR : Rd P e R) (hk : P.cellsOf e = k) (h0 : 0 < k) (ht : P.underlying t = some (.slice e)) : Rd P t (fun w cs (l : List α) => ∃ v, cs = [v] ∧ Sl w k R v l) := by
  intro H enc w base spare held fuel cs x h
  rcases Deep.open_slice ht h with ⟨rfl, _⟩ | ⟨a, len, cap, m, n, D, Pl, rfl, _, hl, hm, hmm, _, hx⟩
  · exact ⟨[], _, rfl, Sl.nil⟩
  · have hlm : len ≤ m := by rw [hmm]; split <;> omega
    rw [hk] at hx
    obtain ⟨l, hll, hp⟩ := list_of (p := fun i x => ∃ cs, w.cells? base (a.add (i * k)) k = some cs ∧ R w cs x) len (fun i hi => by
      obtain ⟨cs, h1, h2⟩ := hx i (by omega)
      obtain ⟨y, hy⟩ := hR H enc w base spare held n cs _ h2
      exact ⟨y, cs, h1, hy⟩)
    refine ⟨l, _, rfl, some a, cap, by rw [hll], by omega, by simp only [maxLen] at hm; omega, fun i hi => ?_⟩
    obtain ⟨cs, h1, h2⟩ := hp i hi
    obtain ⟨cs0, h01, _⟩ := hp 0 (by omega)
    obtain ⟨_, hl0, hc0⟩ := World.cells?_some h01
    have ha := addr_of ((hc0 0 h0).trans (List.getElem?_eq_getElem (by omega)))
    obtain ⟨_, hlc, hc⟩ := World.cells?_some h1
    obtain ⟨b, o, s⟩ := a
    have hs : s = none := by
      have : (0 : Nat) * k = 0 := Nat.zero_mul k
      simp only [this, Addr.add, if_true] at ha
      simpa using ha
    subst hs
    refine ⟨b, o, cs, rfl, hlc, fun j v hv => ?_, h2⟩
    have hj : j < k := by have := (List.getElem?_eq_some_iff.1 hv).1; omega
    have := (hc j hj).trans hv
    rwa [addr_add, addr_add] at this
theorem rd_fields {H : Type} {enc : TypeId × Value → H} {w : World} {base : Nat} {spare : Nat → Bool} {held : Bool} {fuel : Nat} {cs : List Value} {x : DataW H × List MemPlace} {fs : Array Field} (ht : P.underlying t = some (.struct fs)) (h : DataW.trod enc P w base spare held fuel t cs = some x) :
    cs.length = P.cellsOf t ∧ ∃ n, ∀ (i : Nat) (f : Field), fs[i]? = some f → ∃ y, DataW.trod enc P w base spare held n f.type ((cs.drop f.offset).take (P.cellsOf f.type)) = some y := by
  obtain ⟨xs, n, _, _, hl, hxs, hf⟩ := DataW.trod_struct ht h
  refine ⟨hl, n, fun i f hi => ?_⟩
  have h1 := (Array.getElem?_eq_some_iff.1 hi).1
  exact ⟨xs[i]'(by omega), (hf i f hi).trans (List.getElem?_eq_getElem (by omega))⟩
theorem rd_elems {H : Type} {enc : TypeId × Value → H} {w : World} {base : Nat} {spare : Nat → Bool} {held : Bool} {fuel : Nat} {cs : List Value} {x : DataW H × List MemPlace} {m k : Nat} (ht : P.underlying t = some (.array m e)) (hk : P.cellsOf e = k) (h : DataW.trod enc P w base spare held fuel t cs = some x) :
    cs.length = P.cellsOf t ∧ ∃ n, ∀ i, i < m → ∃ y, DataW.trod enc P w base spare held n e ((cs.drop (i * k)).take k) = some y := by
  subst hk
  cases fuel with
  | zero => simp [DataW.trod] at h
  | succ n =>
    unfold DataW.trod at h
    rw [ht] at h
    split at h <;> simp_all
    obtain ⟨_, xs, hp, _⟩ := h
    have hlen := mapM_some_length hp
    refine ⟨n, fun i hi => ?_⟩
    have := mapM_some_get hp i i (by simp [hi])
    have hx : i < xs.length := by rw [hlen]; simpa using hi
    exact ⟨xs[i].1, xs[i].2, this.trans (List.getElem?_eq_getElem hx)⟩
/-- A list of so many cells, cell by cell. -/
theorem two_of {cs : List Value} (h : cs.length = 2) : ∃ a b, cs = [a, b] := by
  match cs, h with
  | [a, b], _ => exact ⟨a, b, rfl⟩
theorem three_of {cs : List Value} (h : cs.length = 3) : ∃ a b c, cs = [a, b, c] := by
  match cs, h with
  | [a, b, c], _ => exact ⟨a, b, c, rfl⟩
theorem four_of {cs : List Value} (h : cs.length = 4) : ∃ a b c d, cs = [a, b, c, d] := by
  match cs, h with
  | [a, b, c, d], _ => exact ⟨a, b, c, d, rfl⟩
theorem five_of {cs : List Value} (h : cs.length = 5) : ∃ a b c d e, cs = [a, b, c, d, e] := by
  match cs, h with
  | [a, b, c, d, e], _ => exact ⟨a, b, c, d, e, rfl⟩
theorem six_of {cs : List Value} (h : cs.length = 6) : ∃ a b c d e f, cs = [a, b, c, d, e, f] := by
  match cs, h with
  | [a, b, c, d, e, f], _ => exact ⟨a, b, c, d, e, f, rfl⟩
theorem agg_list {cs : Array Value} : Value.agg cs = .agg cs.toList.toArray := by simp
end
end Bx
namespace Bx
open Go Go.RowKit Go.ChangeShapes Go.WideShapes
theorem okWide_arr {P : Program} {w : World} {r : Reach} {base : Nat} {t : TypeId} {v : Value} {n : Nat} {e : TypeId} (ht : P.underlying t = some (.array n e)) (h : Value.okWide P w r base t v) : ∃ cs, v = .agg cs := by
  unfold Value.okWide at h
  rw [ht] at h
  obtain ⟨cs, h, _⟩ := h
  exact ⟨cs, h⟩
end Bx
