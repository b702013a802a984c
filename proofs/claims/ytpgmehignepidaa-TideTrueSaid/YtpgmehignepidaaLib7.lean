/- Slices that came in, read as lists. -/
import Derived.Test.YtpgmehignepidaaLib6
set_option linter.all false
namespace Bx
open Go Go.RowKit

/-- The slice v reads as the list l; R w cs x: the k cells cs of an element read as x. -/
def Sl {α : Type} (w : World) (k : Nat) (R : World → List Value → α → Prop) (v : Value) (l : List α) : Prop :=
  ∃ a cap, v = .slice a l.length cap ∧ l.length ≤ cap ∧ cap ≤ 9223372036854775807 ∧ ∀ i (h : i < l.length), ∃ b o cs, a = some ⟨b, o, none⟩ ∧ cs.length = k ∧ Cells w b (o + i * k) cs ∧ R w cs l[i]
/-- A reading that stays while nothing old changes. -/
def Stays {α : Type} (R : World → List Value → α → Prop) : Prop := ∀ w w' cs x, Ext w w' → R w cs x → R w' cs x
theorem Sl.ext {α : Type} {w w' : World} {k : Nat} {R : World → List Value → α → Prop} {v : Value} {l : List α} (h : Sl w k R v l) (hR : Stays R) (e : Ext w w') : Sl w' k R v l := by
  obtain ⟨a, cap, hv, h1, h2, h3⟩ := h
  refine ⟨a, cap, hv, h1, h2, fun i hi => ?_⟩
  obtain ⟨b, o, cs, ha, hl, hc, hr⟩ := h3 i hi
  exact ⟨b, o, cs, ha, hl, hc.ext e, hR _ _ _ _ e hr⟩
theorem Sl.nil {α : Type} {w : World} {k : Nat} {R : World → List Value → α → Prop} : Sl w k R (.slice none 0 0) ([] : List α) := ⟨none, 0, rfl, Nat.le_refl _, by omega, fun i hi => absurd hi (Nat.not_lt_zero i)⟩

def RInt (_ : World) (cs : List Value) (n : Int) : Prop := cs = [.int .i64 n] ∧ I64 n
theorem RInt.stays : Stays RInt := fun _ _ _ _ _ h => h

section
variable {P : Program} {ρ : Operand → Value} {w : World} {ty : TypeId}
theorem yIxa {x i : Operand} {T e : TypeId} {a : Option Addr} {b o len cap k : Nat} {kd : IntKind} {m : Int} (hx : ρ x = .slice a len cap) (ha : a = some ⟨b, o, none⟩) (hi : ρ i = .int kd m) (hu : ∀ w, (underlying T).run P w = .ok (.slice e) w)
    (hs : ∀ w, (Go.sizeOf e).run P w = .ok k w) (h0 : 0 ≤ m) (h1 : m < len) : Y P ρ (.indexAddr T x i) ty w (.pointer (some ⟨b, o + m.toNat * k, none⟩)) w := by
  subst ha
  exact yIx hx hi hu hs h0 h1
end
theorem Cells.at {w : World} {b o : Nat} {vs : List Value} (h : Cells w b o vs) {j : Nat} {v : Value} (hv : vs[j]? = some v) : w.cell? ⟨b, o + j, none⟩ = some v := h j v hv
theorem Cells.one {w : World} {b o : Nat} {v : Value} {vs : List Value} (h : Cells w b o (v :: vs)) : w.cell? ⟨b, o, none⟩ = some v := h 0 v rfl
/-- The cells of the i-th part of a block of equal parts. -/
theorem flat_get {α : Type} {enc : α → List Value} {k : Nat} (hk : ∀ x, (enc x).length = k) : ∀ (l : List α) (i j : Nat) (x : α), l[i]? = some x → j < k → (l.flatMap enc)[i * k + j]? = (enc x)[j]?
  | [], i, j, x, h, _ => by simp at h
  | y :: l, 0, j, x, h, hj => by
    obtain rfl : y = x := by simpa using h
    rw [List.flatMap_cons, List.getElem?_append_left (by rw [hk]; omega), Nat.zero_mul, Nat.zero_add]
  | y :: l, i + 1, j, x, h, hj => by
    rw [List.flatMap_cons, List.getElem?_append_right (by rw [hk]; rw [Nat.succ_mul]; omega), hk, show (i + 1) * k + j - k = i * k + j by rw [Nat.succ_mul]; omega]
    exact flat_get hk l i j x (by simpa using h) hj
theorem flat_cells {α : Type} {enc : α → List Value} {k : Nat} (hk : ∀ x, (enc x).length = k) {w : World} {b o : Nat} {l : List α} (h : Cells w b o (l.flatMap enc)) {i : Nat} {x : α} (hi : l[i]? = some x) : Cells w b (o + i * k) (enc x) := by
  intro j v hv
  have hj : j < k := by
    have := (List.getElem?_eq_some_iff.1 hv).1
    rwa [hk] at this
  rw [Nat.add_assoc]
  exact h _ v (by rw [flat_get hk l i j x hi hj]; exact hv)
theorem flat_cells0 {α : Type} {enc : α → List Value} {k : Nat} (hk : ∀ x, (enc x).length = k) {w : World} {b : Nat} {l : List α} (h : Cells w b 0 (l.flatMap enc)) {i : Nat} {x : α} (hi : l[i]? = some x) : Cells w b (i * k) (enc x) := by
  have := flat_cells hk h hi
  rwa [Nat.zero_add] at this
theorem blk_cells {w : World} {b : Nat} {cs : List Value} {t : TypeId} {fr : Nat × Nat} (h : w.heap[b]? = some (.cells cs.toArray t fr)) : Cells w b 0 cs := fun j v hv => by
  rw [Nat.zero_add]
  exact cell_of h hv
/-- A slice of the call's own, of elements that are written out cell by cell, reads as its list. -/
theorem row_sl {α : Type} {enc : α → List Value} {ok : α → Prop} {k : Nat} (hk : ∀ x, (enc x).length = k) {w : World} {e : TypeId} {v : Value} {l : List α} (h : w.ownsRow 0 e k v l.length (l.flatMap enc)) (hok : ∀ x ∈ l, ok x) : Sl w k (fun _ cs x => cs = enc x ∧ ok x) v l := by
  rcases h.2 with ⟨rfl, h0⟩ | ⟨g, cap, cur, rfl, _, hg, hn, hm, hc, ht⟩
  · obtain rfl : l = [] := List.eq_nil_of_length_eq_zero h0
    exact Sl.nil
  · refine ⟨_, cap, rfl, hn, by simp only [maxLen] at hm; omega, fun i hi => ⟨g, 0, enc l[i], rfl, hk _, ?_, rfl, hok _ (List.getElem_mem hi)⟩⟩
    refine flat_cells hk (l := l) ?_ (List.getElem?_eq_getElem hi)
    intro j u hu
    rw [Nat.zero_add, World.cell?, hg]
    have hj : j < l.length * k := by
      have := (List.getElem?_eq_some_iff.1 hu).1
      rwa [h.1] at this
    rw [← ht, List.getElem?_take, if_pos hj] at hu
    simpa using hu

theorem fstI {α : Type} {p q : Int × α} (h : p = q) : Value.int .i64 q.1 = .int .i64 p.1 := by rw [h]
theorem sndI {p q : Int × Int} (h : p = q) : Value.int .i64 q.2 = .int .i64 p.2 := by rw [h]
theorem thd1I {p q : Int × Int × Int} (h : p = q) : Value.int .i64 q.2.1 = .int .i64 p.2.1 := by rw [h]
theorem thd2I {p q : Int × Int × Int} (h : p = q) : Value.int .i64 q.2.2 = .int .i64 p.2.2 := by rw [h]
theorem eqI {p q : Int} (h : p = q) : Value.int .i64 q = .int .i64 p := by rw [h]
theorem eqB {p q : Bool} (h : p = q) : Value.bool q = .bool p := by rw [h]

/-! ### rules: function values with errors -/
structure Rule where
  g : Nat
  caps : List Value
  e : Int
  B : Bool
def rcells (r : Rule) : List Value := [.func (.func r.g) #[] r.caps.toArray, .int .i64 r.e]
theorem rcells_len (r : Rule) : (rcells r).length = 2 := rfl
def firstE : List Rule → Int
  | [] => 0
  | r :: rs => if r.B then r.e else firstE rs
def RulesOk (P : Program) (w0 : World) : List Rule → Prop
  | [] => True
  | r :: rs => (∀ ys w, (callFunc r.g ys).run P w = .ok (.enter r.g ys) w) ∧ (∀ w, Ext w0 w → CV P r.g r.caps.toArray w (.bool r.B)) ∧ (r.B = false → RulesOk P w0 rs)
theorem drop_of {α : Type} {l : List α} {k : Nat} (h : k < l.length) : ∃ x, l[k]? = some x ∧ l.drop k = x :: l.drop (k + 1) := ⟨l[k], List.getElem?_eq_getElem h, List.drop_eq_getElem_cons h⟩
end Bx
