/- Merged texts, part 1. -/
import Derived.WalkKit
import Derived.WalkLawsBesides
import Derived.Deep.Quiet
import Derived.Laws.Rows
import Derived.Laws.Tables
import Derived.StillTail
import Derived.Deep.Slices
import Derived.OpenShut
import Derived.RangeFuncRecord
import Derived.RangeFuncSeq
import Derived.RangeFuncCalls
import Derived.OwnWalkIn
import Derived.OrdersIn
import Derived.RangeFuncMany
import Derived.Defers
import Derived.Recover
import Derived.Laws.CopyRow
import Derived.Laws.BitsLemmas
import Derived.Laws.OwnMore
import Derived.SizedLaws
set_option linter.all false
set_option maxHeartbeats 8000000
namespace Bx
open Go Go.RowKit
abbrev Fr := Nat → Value
def mk (n : Nat) (f : Fr) : Act := { tmps := ((List.range n).map f).toArray, defers := [] }
def upd (f : Fr) (d : Nat) (v : Value) : Fr := fun t => bif Nat.beq t d then v else f t
def ini (l : List Value) : Fr := fun t => l.getD t undef
def ev (n : Nat) (f : Fr) : Operand → Value
 | .tmp t => bif Nat.blt t n then f t else undef
 | .const v => v
 | .global g => .pointer (some ⟨g, 0, none⟩)
 | .func g => .func (.func g) #[] #[]
theorem mk_tmps (n : Nat) (f : Fr) (t : Nat) : (mk n f).tmps[t]? = if t < n then some (f t) else none := by
 simp only [mk, List.getElem?_toArray, List.getElem?_map]
 by_cases h : t < n <;> simp [h]
theorem upd_same (f : Fr) (d : Nat) (v : Value) : upd f d v d = v := by simp [upd]
theorem upd_other (f : Fr) (d t : Nat) (v : Value) (h : d ≠ t) : upd f d v t = f t := by
 have h' : Nat.beq t d = false := by
  cases hb : Nat.beq t d with
  | false => rfl
  | true => exact absurd (Nat.eq_of_beq_eq_true hb).symm h
 simp only [upd, h', cond_false]
theorem mk_put (n : Nat) (f : Fr) (d : Nat) (v : Value) : (mk n f).put (some d) v = mk n (upd f d v) := by
 simp only [Act.put, mk, Act.mk.injEq, and_true]
 apply Array.ext_getElem?
 intro t
 simp only [Array.getElem?_setIfInBounds, List.getElem?_toArray, List.getElem?_map, List.size_toArray, List.length_map, List.length_range]
 by_cases h : d = t
 ·
  subst h
  by_cases h2 : d < n <;> simp [h2, upd_same]
 ·
  by_cases h2 : t < n <;> simp [h, h2, upd_other]
theorem mk_eval (n : Nat) (f : Fr) : (mk n f).eval = ev n f := by
  funext x
  cases x with
  | tmp t =>
    simp only [Act.eval, ev, Array.getD_eq_getD_getElem?, mk_tmps]
    by_cases h : t < n
    · have : Nat.blt t n = true := by rw [Nat.blt_eq]; exact h
      simp [h, this]
    · have : Nat.blt t n = false := by
        cases hb : Nat.blt t n with
        | false => rfl
        | true => rw [Nat.blt_eq] at hb; exact absurd hb h
      simp [h, this]
  | _ => rfl
/-- What an operation does, its place in the text set aside. -/
def xop (ρ : Operand → Value) (op : Op) (ty : TypeId) : Sem Next := execOp ρ ⟨none, op, ty, "", #[], none⟩
theorem execOp_xop (ρ : Operand → Value) (d : Option Tmp) (op : Op) (ty : TypeId) (pos : String) (af : Array Edge) (g : Option (Nat × Bool)) : execOp ρ ⟨d, op, ty, pos, af, g⟩ = xop ρ op ty := by
 cases op <;> rfl
/-- The operation yields the value v and leaves the world w'. -/
def Y (P : Program) (ρ : Operand → Value) (op : Op) (ty : TypeId) (w : World) (v : Value) (w' : World) : Prop := (xop ρ op ty).run P w = .ok (.value v) w'
def wpL (P : Program) (ops : Array Oper) (Q : Exit → Act → World → Prop) (n : Nat) (l : List Oper) (f : Fr) (w : World) : Prop := wpList P ops Q l (mk n f) w
section
variable {P : Program} {ops : Array Oper} {Q : Exit → Act → World → Prop} {n : Nat} {l : List Oper} {f : Fr} {w w' : World} {rest : List Oper}
theorem region {id : Nat} {l : List Oper} (h : wpL P l.toArray Q n l f w) : (Code.region id l.toArray false).wp P Q (mk n f) w := wp_region_lit h
theorem wpL_run {o : Oper} (hg : o.guard = none) (h : o.wp P (mk n f) w (wpList P ops Q rest) Q) : wpL P ops Q n (o :: rest) f w := by
 unfold wpL
 unfold wpList
 rw [if_pos (by simp [Region.wanted, hg])]
 exact .inl h
/-- The step of an operation that yields a value. -/
theorem sv {d : Nat} {op : Op} {ty : TypeId} {pos : String} {af : Array Edge} {v : Value} (hr : Y P (ev n f) op ty w v w') (h : wpL P ops Q n rest (upd f d v) w') :
    wpL P ops Q n (⟨some d, op, ty, pos, af, none⟩ :: rest) f w := by
  refine wpL_run rfl ?_
  unfold Oper.wp
  rw [mk_eval, execOp_xop, hr]
  show wpList P ops Q rest ((mk n f).put (some d) v) w'
  rw [mk_put]
  exact h
theorem nil (h : Q .normal (mk n f) w) : wpL P ops Q n [] f w := h
def dstOf (ops : Array Oper) (j : Nat) : Option Nat := (ops[j]?).bind (·.dst)
def Cnd (G : Prop) (v' v : Value) : Prop := (G → v' = v) ∧ (¬ G → v' = undef)
theorem yielded_eq {j d : Nat} (hd : dstOf ops j = some d) (hn : d < n) : yielded ops (mk n f).tmps j = (match f d with | .bool b => some b | _ => none) := by
 unfold yielded
 unfold dstOf at hd
 rw [hd]
 simp only [Option.bind_some, mk_tmps, hn, if_true]
 cases f d <;> rfl
theorem wpL_guard {j : Nat} {want : Bool} {dj d : Nat} {op : Op} {ty : TypeId} {pos : String} {af : Array Edge} (hd : dstOf ops j = some dj) (hn : Nat.blt dj n = true) {G : Prop} {v : Value}
    (hG : G ↔ f dj = .bool want)
    (hr : G → Y P (ev n f) op ty w v w)
    (h : ∀ v', Cnd G v' v → wpL P ops Q n rest (upd f d v') w) :
    wpL P ops Q n (⟨some d, op, ty, pos, af, some (j, want)⟩ :: rest) f w := by
  rw [Nat.blt_eq] at hn
  unfold wpL
  unfold wpList
  have hy := yielded_eq (f := f) hd hn
  by_cases g : G
  · have hf := hG.1 g
    rw [hf] at hy
    rw [if_pos (by simp [Region.wanted, hy])]
    left
    unfold Oper.wp
    rw [mk_eval, execOp_xop, hr g]
    show wpList P ops Q rest ((mk n f).put (some d) v) w
    rw [mk_put]
    exact h v ⟨fun _ => rfl, fun hn => absurd g hn⟩
  · have hf : f dj ≠ .bool want := fun e => g (hG.2 e)
    rw [if_neg (by
      simp only [Region.wanted, hy]
      intro hc
      cases hv : f dj <;> simp [hv] at hc
      rename_i b
      exact hf (by rw [hv, hc]))]
    show wpList P ops Q rest ((mk n f).put (some d) undef) w
    rw [mk_put]
    exact h undef ⟨fun hg => absurd hg g, fun _ => rfl⟩
/-- A guarded operation, whose guard's slot holds the bool B. -/
theorem sg {j : Nat} {want : Bool} {dj d : Nat} {op : Op} {ty : TypeId} {pos : String} {af : Array Edge} {B : Bool} {v : Value} (hd : dstOf ops j = some dj) (hn : Nat.blt dj n = true)
    (hb : f dj = .bool B) (hr : B = want → Y P (ev n f) op ty w v w)
    (h : ∀ v', Cnd (B = want) v' v → wpL P ops Q n rest (upd f d v') w) :
    wpL P ops Q n (⟨some d, op, ty, pos, af, some (j, want)⟩ :: rest) f w :=
  wpL_guard hd hn (by rw [hb]; simp) hr h
/-- A guarded operation, whose guard's slot was itself written under a guard. -/
theorem sgg {j : Nat} {want : Bool} {dj d : Nat} {op : Op} {ty : TypeId} {pos : String} {af : Array Edge} {B : Bool} {v : Value} {Gj : Prop} (hd : dstOf ops j = some dj) (hn : Nat.blt dj n = true)
    (hb : Cnd Gj (f dj) (.bool B)) (hr : Gj ∧ B = want → Y P (ev n f) op ty w v w)
    (h : ∀ v', Cnd (Gj ∧ B = want) v' v → wpL P ops Q n rest (upd f d v') w) :
    wpL P ops Q n (⟨some d, op, ty, pos, af, some (j, want)⟩ :: rest) f w :=
  wpL_guard hd hn (by
    constructor
    · rintro ⟨g, rfl⟩; exact hb.1 g
    · intro e
      by_cases g : Gj
      · refine ⟨g, ?_⟩
        have := (hb.1 g).symm.trans e
        simpa using this
      · have := (hb.2 g).symm.trans e
        simp [undef] at this) hr h
end
section
variable {P : Program} {ρ : Operand → Value} {w : World} {ty : TypeId}
theorem yMove {x : Operand} {v : Value} (hx : ρ x = v) : Y P ρ (.move x) ty w v w := by subst hx; rfl
theorem yAsg {x : Operand} {v : Value} (hx : ρ x = v) : Y P ρ (.assign x) ty w v w := by subst hx; rfl
theorem yLss {x y : Operand} {k : IntKind} {a b : Int} {t t' : TypeId} (hx : ρ x = .int k a) (hy : ρ y = .int k b) : Y P ρ (.binOp .lss t x y t') ty w (.bool (decide (a < b))) w := by
 simp [Y, xop, execOp, hx, hy, eqGuard, binOp, Op.intCmp]
theorem yLeq {x y : Operand} {k : IntKind} {a b : Int} {t t' : TypeId} (hx : ρ x = .int k a) (hy : ρ y = .int k b) : Y P ρ (.binOp .leq t x y t') ty w (.bool (decide (a ≤ b))) w := by
 simp [Y, xop, execOp, hx, hy, eqGuard, binOp, Op.intCmp]
theorem yGtr {x y : Operand} {k : IntKind} {a b : Int} {t t' : TypeId} (hx : ρ x = .int k a) (hy : ρ y = .int k b) : Y P ρ (.binOp .gtr t x y t') ty w (.bool (decide (b < a))) w := by
 simp [Y, xop, execOp, hx, hy, eqGuard, binOp, Op.intCmp]
theorem yGeq {x y : Operand} {k : IntKind} {a b : Int} {t t' : TypeId} (hx : ρ x = .int k a) (hy : ρ y = .int k b) : Y P ρ (.binOp .geq t x y t') ty w (.bool (decide (b ≤ a))) w := by
 simp [Y, xop, execOp, hx, hy, eqGuard, binOp, Op.intCmp]
theorem yEql {x y : Operand} {k : IntKind} {a b : Int} {t t' : TypeId} (hx : ρ x = .int k a) (hy : ρ y = .int k b) : Y P ρ (.binOp .eql t x y t') ty w (.bool (decide (a = b))) w := by
 have : (a == b) = decide (a = b) := by by_cases h : a = b <;> simp [h]
 simp [Y, xop, execOp, hx, hy, eqGuard, binOp, Op.intCmp, this]
theorem yNeq {x y : Operand} {k : IntKind} {a b : Int} {t t' : TypeId} (hx : ρ x = .int k a) (hy : ρ y = .int k b) : Y P ρ (.binOp .neq t x y t') ty w (.bool (decide (a ≠ b))) w := by
 have : (a != b) = decide (a ≠ b) := by by_cases h : a = b <;> simp [h]
 simp [Y, xop, execOp, hx, hy, eqGuard, binOp, Op.intCmp, this]
theorem yAddW {x y : Operand} {k : IntKind} {a b : Int} {t t' : TypeId} (hx : ρ x = .int k a) (hy : ρ y = .int k b) : Y P ρ (.binOp .add t x y t') ty w (.int k (k.wrap (a + b))) w := by
 simp [Y, xop, execOp, hx, hy, eqGuard, binOp, Op.intArith]
theorem ySubW {x y : Operand} {k : IntKind} {a b : Int} {t t' : TypeId} (hx : ρ x = .int k a) (hy : ρ y = .int k b) : Y P ρ (.binOp .sub t x y t') ty w (.int k (k.wrap (a - b))) w := by
 simp [Y, xop, execOp, hx, hy, eqGuard, binOp, Op.intArith]
theorem yMulW {x y : Operand} {k : IntKind} {a b : Int} {t t' : TypeId} (hx : ρ x = .int k a) (hy : ρ y = .int k b) : Y P ρ (.binOp .mul t x y t') ty w (.int k (k.wrap (a * b))) w := by
 simp [Y, xop, execOp, hx, hy, eqGuard, binOp, Op.intArith]
def I64 (a : Int) : Prop := -9223372036854775808 ≤ a ∧ a ≤ 9223372036854775807
theorem wrap_in {a : Int} (h : I64 a) : IntKind.i64.wrap a = a := IntWalk.i64_in a h
theorem yAdd {x y : Operand} {a b : Int} {t t' : TypeId} (hx : ρ x = .int .i64 a) (hy : ρ y = .int .i64 b) (h : I64 (a + b)) : Y P ρ (.binOp .add t x y t') ty w (.int .i64 (a + b)) w := by
 have := yAddW (P := P) (w := w) (ty := ty) (t := t) (t' := t') hx hy
 rwa [wrap_in h] at this
theorem ySub {x y : Operand} {a b : Int} {t t' : TypeId} (hx : ρ x = .int .i64 a) (hy : ρ y = .int .i64 b) (h : I64 (a - b)) : Y P ρ (.binOp .sub t x y t') ty w (.int .i64 (a - b)) w := by
 have := ySubW (P := P) (w := w) (ty := ty) (t := t) (t' := t') hx hy
 rwa [wrap_in h] at this
theorem yMul {x y : Operand} {a b : Int} {t t' : TypeId} (hx : ρ x = .int .i64 a) (hy : ρ y = .int .i64 b) (h : I64 (a * b)) : Y P ρ (.binOp .mul t x y t') ty w (.int .i64 (a * b)) w := by
 have := yMulW (P := P) (w := w) (ty := ty) (t := t) (t' := t') hx hy
 rwa [wrap_in h] at this
theorem yNot {x : Operand} {b : Bool} {t : TypeId} (hx : ρ x = .bool b) : Y P ρ (.unOp .not t x) ty w (.bool (!b)) w := by
 simp [Y, xop, execOp, hx, Op.unary]
theorem yLenS {x : Operand} {s : ByteArray} {t : TypeId} (hx : ρ x = .string s) (ht : P.underlying t = some .string) : Y P ρ (.call ⟨.builtin .len, #[x], #[t]⟩) ty w (.int .i64 s.size) w := by
 simp [Y, xop, execOp, hx, resolve, invoke, builtin, Builtin.len_, goInt, run_underlying ht]
theorem yLen {x : Operand} {a : Option Addr} {l c : Nat} {t e : TypeId} (hx : ρ x = .slice a l c) (ht : P.underlying t = some (.slice e)) : Y P ρ (.call ⟨.builtin .len, #[x], #[t]⟩) ty w (.int .i64 l) w := by
 simp [Y, xop, execOp, hx, resolve, invoke, builtin, Builtin.len_, goInt, run_underlying ht]
theorem yPick {c a b : Operand} {B : Bool} {v : Value} (hc : ρ c = .bool B) (ha : B = true → ρ a = v) (hb : B = false → ρ b = v) : Y P ρ (.pick c a b) ty w v w := by
 cases B
 ·
  simp [Y, xop, execOp, hc, hb rfl, asBool]
 ·
  simp [Y, xop, execOp, hc, ha rfl, asBool]
theorem yAnd {c a b : Operand} {B C : Bool} (hc : ρ c = .bool B) (ha : B = true → ρ a = .bool C) (hb : ρ b = .bool false) : Y P ρ (.pick c a b) ty w (.bool (B && C)) w := by
 cases B
 ·
  simp [Y, xop, execOp, hc, hb, asBool]
 ·
  simp [Y, xop, execOp, hc, ha rfl, asBool]
theorem yOr {c a b : Operand} {B C : Bool} (hc : ρ c = .bool B) (ha : ρ a = .bool true) (hb : B = false → ρ b = .bool C) : Y P ρ (.pick c a b) ty w (.bool (B || C)) w := by
 cases B
 ·
  simp [Y, xop, execOp, hc, hb rfl, asBool]
 ·
  simp [Y, xop, execOp, hc, ha, asBool]
theorem yExt {t : Operand} {vs : Array Value} {i : Nat} {v : Value} (hx : ρ t = .tuple vs) (hv : vs[i]? = some v) : Y P ρ (.extract t i) ty w v w := by
 simp [Y, xop, execOp, hx, Instr.extract, hv]
theorem yIxS {x i : Operand} {s : ByteArray} {k : IntKind} {m : Nat} {b : UInt8} {t : TypeId} (hx : ρ x = .string s) (hi : ρ i = .int k m) (ht : P.underlying t = some .string) (hb : s[m]? = some b) :
    Y P ρ (.index t x i) ty w (.int .u8 b.toNat) w := by
  simp [Y, xop, execOp, hx, hi, Instr.index, run_underlying ht, hb, asIntOf]
theorem bytesEq (a b : ByteArray) : (a.toList == b.toList) = decide (a = b) := by
 rw [ByteArray.toList_eq, ByteArray.toList_eq]
 by_cases h : a = b
 ·
  simp [h]
 ·
  have : ¬ a.data = b.data := fun e => h (ByteArray.ext e)
  simp [h, this]
theorem ySEq {x y : Operand} {a b : ByteArray} {t t' : TypeId} (hx : ρ x = .string a) (hy : ρ y = .string b) : Y P ρ (.binOp .eql t x y t') ty w (.bool (decide (a = b))) w := by
 simp [Y, xop, execOp, hx, hy, eqGuard, binOp, Op.stringOp, bytesEq]
theorem ySNe {x y : Operand} {a b : ByteArray} {t t' : TypeId} (hx : ρ x = .string a) (hy : ρ y = .string b) : Y P ρ (.binOp .neq t x y t') ty w (.bool (decide (a ≠ b))) w := by
 simp [Y, xop, execOp, hx, hy, eqGuard, binOp, Op.stringOp, bytesEq]
end
/-- What is simplified of a condition that was met. -/
theorem BS : (∀ a b : Bool, ((a && b) = true) = (a = true ∧ b = true)) ∧ (∀ a b : Bool, ((a || b) = true) = (a = true ∨ b = true)) ∧ (∀ a b : Bool, ((a && b) = false) ↔ (a = false ∨ b = false)) ∧ (∀ a b : Bool, ((a || b) = false) ↔ (a = false ∧ b = false)) ∧
    (∀ (p : Prop) [Decidable p], (decide p = true) = p) ∧ (∀ (p : Prop) [Decidable p], (decide p = false) ↔ ¬ p) ∧ (∀ b : Bool, (¬ b = true) = (b = false)) ∧ (∀ b : Bool, (¬ b = false) = (b = true)) ∧ (∀ b : Bool, (!!b) = b) ∧ (∀ a b : Bool, ((!a) = b) ↔ (a = !b)) ∧
    (!true) = false ∧ (!false) = true ∧ (false = true) = False ∧ (true = false) = False ∧ (∀ (p : Prop) [Decidable p], (¬¬p) ↔ p) ∧ (¬False) = True ∧ (¬True) = False :=
  ⟨fun a b => Bool.and_eq_true a b, fun a b => Bool.or_eq_true a b, fun _ _ => Bool.and_eq_false_iff, fun _ _ => Bool.or_eq_false_iff, fun p _ => decide_eq_true_eq, fun p _ => decide_eq_false_iff_not, fun b => Bool.not_eq_true b, fun b => Bool.not_eq_false b, fun b => Bool.not_not b, fun a b => Bool.not_eq_eq_eq_not,
   rfl, rfl, Bool.false_eq_true, Bool.true_eq_false, fun p _ => Decidable.not_not, not_false_eq_true, not_true_eq_false⟩
/-- Nothing that was there has changed. -/
def Ext (w w' : World) : Prop := Below w.heap.size w w'
theorem Ext.refl (w : World) : Ext w w := Below.refl _ _
theorem Ext.trans {a b c : World} (h : Ext a b) (k : Ext b c) : Ext a c := Below.trans h (k.mono h.size)
theorem Ext.heap {w w' : World} (h : Ext w w') {b : Nat} (hb : b < w.heap.size) : w'.heap[b]? = w.heap[b]? := h.block b hb
theorem lt_of_heap {w : World} {b : Nat} {o : Obj} (h : w.heap[b]? = some o) : b < w.heap.size := by
 rcases Nat.lt_or_ge b w.heap.size with h' | h'
 ·
  exact h'
 ·
  simp [Array.getElem?_eq_none h'] at h
theorem Ext.get {w w' : World} (h : Ext w w') {b : Nat} {o : Obj} (hb : w.heap[b]? = some o) : w'.heap[b]? = some o := (h.heap (lt_of_heap hb)).trans hb
theorem Ext.cell {w w' : World} (h : Ext w w') {a : Addr} {v : Value} (hc : w.cell? a = some v) : w'.cell? a = some v :=
 (Below.cell h (World.block_lt_of_cell? w a hc)).trans hc
/-- A part of memory: its blocks, and what holds of it. -/
structure Item where
 fp : List Nat
 ok : World → Prop
 loc : ∀ w w', (∀ b ∈ fp, w'.heap[b]? = w.heap[b]?) → ok w → ok w'
 here : ∀ w, ok w → ∀ b ∈ fp, b < w.heap.size
/-- One block, and what holds of what lies there. -/
def cellI (b : Nat) (p : Obj → Prop) : Item where
 fp := [b]
 ok := fun w => ∃ o, w.heap[b]? = some o ∧ p o
 loc := fun _ _ h hw => by
  obtain ⟨o, ho, hp⟩ := hw
  exact ⟨o, (h b (by simp)).trans ho, hp⟩
 here := fun _ hw b' hb' => by
  obtain rfl : b' = b := by simpa using hb'
  obtain ⟨o, ho, _⟩ := hw
  exact lt_of_heap ho
abbrev obj (b : Nat) (o : Obj) : Item := cellI b (Eq o)
/-- A block of cells of the call's own. -/
abbrev blk (b : Nat) (cs : List Value) (t : TypeId) : Item := obj b (.cells cs.toArray t (0, 0))
def fps (L : List Item) : List Nat := L.flatMap Item.fp
/-- Nothing that was there has changed, but for the blocks S. -/
structure ExtX (S : List Nat) (w w' : World) : Prop where
 os : w'.os = w.os
 tape : w'.tape = w.tape
 output : w'.output = w.output
 size : w.heap.size ≤ w'.heap.size
 block : ∀ k, k < w.heap.size → k ∉ S → w'.heap[k]? = w.heap[k]?
theorem ExtX.ext {w w' : World} (h : ExtX [] w w') : Ext w w' := ⟨h.os, h.tape, h.output, h.size, fun k hk => h.block k hk (by simp)⟩
theorem Ext.extX {S : List Nat} {w w' : World} (h : Ext w w') : ExtX S w w' := ⟨h.os, h.tape, h.output, h.size, fun k hk _ => h.block k hk⟩
theorem ExtX.trans {S : List Nat} {a b c : World} (h : ExtX S a b) (k : Ext b c) : ExtX S a c :=
 ⟨k.os.trans h.os, k.tape.trans h.tape, k.output.trans h.output, Nat.le_trans h.size k.size, fun i hi hn => (k.block i (Nat.lt_of_lt_of_le hi h.size)).trans (h.block i hi hn)⟩
theorem ExtX.get {S : List Nat} {w w' : World} (h : ExtX S w w') {b : Nat} {o : Obj} (hb : w.heap[b]? = some o) (hn : b ∉ S) : w'.heap[b]? = some o := (h.block b (lt_of_heap hb) hn).trans hb
/-- From w0 on nothing older has changed but for the blocks S, and the parts L are the call's own. -/
structure StX (S : List Nat) (w0 w : World) (L : List Item) : Prop where
 extx : ExtX S w0 w
 ok : ∀ it ∈ L, it.ok w
 own : ∀ b ∈ fps L, w0.heap.size ≤ b ∨ b ∈ S
 apart : (fps L).Nodup
abbrev St (w0 w : World) (L : List Item) : Prop := StX [] w0 w L
theorem StX.ext {w0 w : World} {L : List Item} (h : StX [] w0 w L) : Ext w0 w := h.extx.ext
theorem StX.owned {w0 w : World} {L : List Item} (h : StX [] w0 w L) {b : Nat} (hb : b ∈ fps L) : w0.heap.size ≤ b := (h.own b hb).resolve_right (by simp)
theorem St.start (w : World) : St w w [] := ⟨(Ext.refl w).extX, by simp, by simp [fps], by simp [fps]⟩
theorem StX.start {w : World} {S : List Nat} {L : List Item} (hok : ∀ it ∈ L, it.ok w) (hS : ∀ b ∈ fps L, b ∈ S) (hn : (fps L).Nodup) : StX S w w L := ⟨(Ext.refl w).extX, hok, fun b hb => .inr (hS b hb), hn⟩
theorem StX.lt {S : List Nat} {w0 w : World} {L : List Item} (h : StX S w0 w L) {b : Nat} (hb : b ∈ fps L) : b < w.heap.size := by
 simp only [fps, List.mem_flatMap] at hb
 obtain ⟨it, hit, hb⟩ := hb
 exact it.here w (h.ok it hit) b hb
/-- A new part, in blocks that are new. -/
theorem StX.push {S : List Nat} {w0 w w' : World} {L : List Item} (h : StX S w0 w L) (e : Ext w w') (M : List Item) (hM : St w w' M) : StX S w0 w' (M ++ L) := by
 refine ⟨h.extx.trans e, ?_, ?_, ?_⟩
 ·
  intro it hit
  rcases List.mem_append.1 hit with hi | hi
  ·
   exact hM.ok it hi
  ·
   refine it.loc w w' (fun b hb => e.heap (h.lt (by simp only [fps, List.mem_flatMap]; exact ⟨it, hi, hb⟩))) (h.ok it hi)
 ·
  intro b hb
  simp only [fps, List.flatMap_append, List.mem_append] at hb
  rcases hb with hb | hb
  ·
   exact .inl (Nat.le_trans h.extx.size (hM.owned hb))
  ·
   exact h.own b hb
 ·
  simp only [fps, List.flatMap_append]
  refine List.nodup_append.2 ⟨hM.apart, h.apart, ?_⟩
  intro a ha b hb e
  subst e
  have h1 := hM.owned ha
  have h2 := h.lt hb
  omega
theorem StX.call {S : List Nat} {w0 w w' : World} {L M : List Item} (h : StX S w0 w L) (hM : St w w' M) : StX S w0 w' (M ++ L) := h.push hM.ext M hM
theorem StX.step {S : List Nat} {w0 w w' : World} {L : List Item} (h : StX S w0 w L) (e : Ext w w') : StX S w0 w' L := h.push e [] ⟨e.extX, by simp, by simp [fps], by simp [fps]⟩
theorem StX.call1 {S : List Nat} {w0 w w' : World} {L : List Item} {it : Item} (h : StX S w0 w L) (hM : St w w' [it]) : StX S w0 w' (it :: L) := h.push hM.ext [it] hM
theorem ext_alloc (w : World) (o : Obj) : Ext w (w.alloc o) := (Below.refl _ _).alloc (Nat.le_refl _) o
theorem ext_drew (w : World) : Ext w { w with drawn := w.drawn + 1 } := ⟨rfl, rfl, rfl, Nat.le_refl _, fun _ _ => rfl⟩
theorem heap_alloc_new (w : World) (o : Obj) : (w.alloc o).heap[w.heap.size]? = some o := by
 show (w.heap.push o)[w.heap.size]? = some o
 simp
theorem St.new (w : World) (o : Obj) : St w (w.alloc o) [obj w.heap.size o] := by
 refine ⟨(ext_alloc w o).extX, ?_, ?_, ?_⟩
 ·
  intro it hit
  obtain rfl : it = _ := by simpa using hit
  exact ⟨o, heap_alloc_new w o, rfl⟩
 ·
  intro b hb
  obtain rfl : b = _ := by simpa [fps, obj, cellI] using hb
  exact .inl (Nat.le_refl _)
 ·
  simp [fps, obj, cellI]
class AtB (L : List Item) (b : Nat) (p : outParam (Obj → Prop)) : Prop where
 get : ∀ {w}, (∀ it ∈ L, it.ok w) → ∃ o, w.heap[b]? = some o ∧ p o
instance (priority := high) atHere (b : Nat) (p : Obj → Prop) (L : List Item) : AtB (cellI b p :: L) b p := ⟨fun h => h _ (List.mem_cons_self ..)⟩
instance (priority := low) atThere (it : Item) (L : List Item) (b : Nat) (p : Obj → Prop) [i : AtB L b p] : AtB (it :: L) b p := ⟨fun h => i.get fun x hx => h x (List.mem_cons_of_mem _ hx)⟩
theorem StX.at {S : List Nat} {w0 w : World} {L : List Item} (h : StX S w0 w L) (b : Nat) {o : Obj} [i : AtB L b (Eq o)] : w.heap[b]? = some o := by
 obtain ⟨o', h1, h2⟩ := i.get h.ok
 rw [h1, h2]
theorem StX.is {S : List Nat} {w0 w : World} {L : List Item} (h : StX S w0 w L) (b : Nat) {p : Obj → Prop} [i : AtB L b p] : ∃ o, w.heap[b]? = some o ∧ p o := i.get h.ok
/-- The object at b is now o; nothing else that was there has changed. -/
structure Put (b : Nat) (o : Obj) (w w' : World) : Prop where
 os : w'.os = w.os
 tape : w'.tape = w.tape
 output : w'.output = w.output
 size : w.heap.size ≤ w'.heap.size
 here : w'.heap[b]? = some o
 other : ∀ k, k < w.heap.size → k ≠ b → w'.heap[k]? = w.heap[k]?
theorem ExtX.put {S : List Nat} {w0 w w' : World} {b : Nat} {o : Obj} (h : ExtX S w0 w) (hp : Put b o w w') (hb : w0.heap.size ≤ b ∨ b ∈ S) : ExtX S w0 w' := by
 refine ⟨hp.os.trans h.os, hp.tape.trans h.tape, hp.output.trans h.output, Nat.le_trans h.size hp.size, fun k hk hn => (hp.other k (Nat.lt_of_lt_of_le hk h.size) ?_).trans (h.block k hk hn)⟩
 rintro rfl
 rcases hb with hb | hb
 ·
  omega
 ·
  exact hn hb
/-- L' is L with o in the place of what was at b. -/
class SetB (L : List Item) (b : Nat) (p : Obj → Prop) (L' : outParam (List Item)) : Prop where
 mem : b ∈ fps L
 same : fps L' = fps L
 set : ∀ {w w' : World}, (∀ k, k < w.heap.size → k ≠ b → w'.heap[k]? = w.heap[k]?) → (∃ o, w'.heap[b]? = some o ∧ p o) → (∀ it ∈ L, it.ok w) → (fps L).Nodup → ∀ it ∈ L', it.ok w'
instance (priority := high) setHere (b : Nat) (p p' : Obj → Prop) (L : List Item) : SetB (cellI b p :: L) b p' (cellI b p' :: L) where
 mem := List.mem_cons_self ..
 same := rfl
 set := by
  intro w w' hk hb hok hn it hit
  rcases List.mem_cons.1 hit with rfl | hi
  ·
   exact hb
  ·
   refine it.loc w w' (fun c hc => hk c (it.here w (hok it (List.mem_cons_of_mem _ hi)) c hc) ?_) (hok it (List.mem_cons_of_mem _ hi))
   rintro rfl
   have hn' : (c :: fps L).Nodup := hn
   exact (List.nodup_cons.1 hn').1 (by simp only [fps, List.mem_flatMap]; exact ⟨it, hi, hc⟩)
instance (priority := low) setThere (it : Item) (L : List Item) (b : Nat) (p' : Obj → Prop) (L' : List Item) [i : SetB L b p' L'] : SetB (it :: L) b p' (it :: L') where
 mem := List.mem_append_right it.fp i.mem
 same := by show it.fp ++ fps L' = it.fp ++ fps L; rw [i.same]
 set := by
  intro w w' hk hb hok hn x hx
  have hn' : (it.fp ++ fps L).Nodup := hn
  obtain ⟨_, hn2, hn3⟩ := List.nodup_append.1 hn'
  rcases List.mem_cons.1 hx with rfl | hx
  ·
   refine x.loc w w' (fun c hc => hk c (x.here w (hok x (List.mem_cons_self ..)) c hc) ?_) (hok x (List.mem_cons_self ..))
   rintro rfl
   exact hn3 c hc c i.mem rfl
  ·
   exact i.set hk hb (fun y hy => hok y (List.mem_cons_of_mem _ hy)) hn2 x hx
theorem StX.puts {S : List Nat} {w0 w w' : World} {L L' : List Item} {b : Nat} {o : Obj} {p : Obj → Prop} (h : StX S w0 w L) (hp : Put b o w w') (hpo : p o) [i : SetB L b p L'] : StX S w0 w' L' := by
 refine ⟨h.extx.put hp (h.own b i.mem), i.set hp.other ⟨o, hp.here, hpo⟩ h.ok h.apart, ?_, ?_⟩
 ·
  rw [i.same]; exact h.own
 ·
  rw [i.same]; exact h.apart
theorem StX.put {S : List Nat} {w0 w w' : World} {L L' : List Item} {b : Nat} {o : Obj} (h : StX S w0 w L) (hp : Put b o w w') [i : SetB L b (Eq o) L'] : StX S w0 w' L' := h.puts hp rfl
def splice (cs : List Value) (o : Nat) (vs : List Value) : List Value := cs.take o ++ vs ++ cs.drop (o + vs.length)
section
variable {P : Program}
theorem put_setRow {w : World} {b : Nat} {cs cs' : Array Value} {t : TypeId} {fr : Nat × Nat} (hg : w.heap[b]? = some (.cells cs t fr)) : Put b (.cells cs' t fr) w (w.setRow b cs') := by
 refine ⟨rfl, rfl, rfl, by simp [World.setRow], setRow_heap w b cs cs' t fr hg, ?_⟩
 intro k _ hk
 simp only [World.setRow, Array.getElem?_modify]
 rw [if_neg (fun e => hk e.symm)]
theorem Put.trans {b : Nat} {o o' : Obj} {w w' w'' : World} (h : Put b o w w') (k : Put b o' w' w'') : Put b o' w w'' :=
 ⟨k.os.trans h.os, k.tape.trans h.tape, k.output.trans h.output, Nat.le_trans h.size k.size, k.here, fun i hi hb => (k.other i (Nat.lt_of_lt_of_le hi h.size) hb).trans (h.other i hi hb)⟩
theorem addr_add (b o i : Nat) : (⟨b, o, none⟩ : Addr).add i = ⟨b, o + i, none⟩ := by
 unfold Addr.add
 split <;> simp_all
theorem take_mid {α : Type} (A : List α) (v : α) (B : List α) (k : Nat) (h : A.length = k) : (A ++ v :: B).take (k + 1) = A ++ [v] := by
 subst h
 rw [List.take_append, List.take_of_length_le (by omega), show A.length + 1 - A.length = 1 by omega]
 simp
theorem drop_mid {α : Type} (A : List α) (v : α) (B : List α) (k m : Nat) (h : A.length = k) : (A ++ v :: B).drop (k + 1 + m) = B.drop m := by
 subst h
 rw [List.drop_append, List.drop_eq_nil_of_le (by omega), show A.length + 1 + m - A.length = m + 1 by omega]
 simp
theorem run_storeAt {b : Nat} {t : TypeId} : ∀ (vs : List Value) (o i : Nat) (cs : List Value) (w : World), w.heap[b]? = some (.cells cs.toArray t (0, 0)) → o + i + vs.length ≤ cs.length → (∀ v ∈ vs, v.oneCell' = true) →
    ∃ w', (storeCells ⟨b, o, none⟩ vs i).run P w = .ok () w' ∧ Put b (.cells (splice cs (o + i) vs).toArray t (0, 0)) w w'
  | [], o, i, cs, w, hg, hl, _ => by
    refine ⟨w, by simp [storeCells], rfl, rfl, rfl, Nat.le_refl _, ?_, fun _ _ _ => rfl⟩
    rw [hg]
    simp [splice]
  | v :: rest, o, i, cs, w, hg, hl, h1 => by
    simp only [List.length_cons] at hl
    have hi : o + i < cs.length := by omega
    have hcell : w.cell? ⟨b, o + i, none⟩ = some cs[o + i] := by simp [World.cell?, hg, hi]
    have hfro : w.frozen? ⟨b, o + i, none⟩ = false := by simp [World.frozen?, hg]
    have hst : (store ((⟨b, o, none⟩ : Addr).add i) v).run P w = .ok () (w.setRow b (cs.set (o + i) v).toArray) := by
      rw [addr_add, run_store P w _ v _ (h1 v (by simp)), hcell]
      simp [hfro, setCell_eq_setRow w b (o + i) cs.toArray t (0, 0) v hg]
    have hp : Put b (.cells (cs.set (o + i) v).toArray t (0, 0)) w (w.setRow b (cs.set (o + i) v).toArray) := put_setRow hg
    obtain ⟨w', hr, hq⟩ := run_storeAt rest o (i + 1) (cs.set (o + i) v) (w.setRow b (cs.set (o + i) v).toArray) hp.here (by simp; omega) (fun x hx => h1 x (by simp [hx]))
    refine ⟨w', by simp only [storeCells, Sem.run_bind, hst, Result.andThen_ok, hr], ?_⟩
    have hq' := hp.trans hq
    have : splice (cs.set (o + i) v) (o + (i + 1)) rest = splice cs (o + i) (v :: rest) := by
      have e : cs.set (o + i) v = cs.take (o + i) ++ v :: cs.drop (o + i + 1) := by rw [List.set_eq_take_append_cons_drop, if_pos hi]
      have e1 : (cs.take (o + i)).length = o + i := by simp; omega
      unfold splice
      rw [e, show o + (i + 1) = o + i + 1 by omega, take_mid _ _ _ _ e1, drop_mid _ _ _ _ _ e1, List.drop_drop, List.length_cons]
      simp only [List.append_assoc, List.cons_append, List.nil_append]
      rw [show o + i + 1 + rest.length = o + i + (rest.length + 1) by omega]
    rw [this] at hq'
    exact hq'
end
section
variable {P : Program} {ρ : Operand → Value} {w : World} {ty : TypeId}
theorem yLd {a : Operand} {T : TypeId} {b o : Nat} {v : Value} (hp : ρ a = .pointer (some ⟨b, o, none⟩)) (hT : ∀ w, (isAgg T).run P w = .ok false w) (hc : w.cell? ⟨b, o, none⟩ = some v) :
    Y P ρ (.load T a) ty w v w := by
  simp [Y, xop, execOp, hp, Instr.loadAt, Instr.sureAddr, loadVar, hT, hc]
theorem cell_of {w : World} {b o : Nat} {cs : List Value} {t : TypeId} {fr : Nat × Nat} {v : Value} (hb : w.heap[b]? = some (.cells cs.toArray t fr)) (hv : cs[o]? = some v) : w.cell? ⟨b, o, none⟩ = some v := by
 simp [World.cell?, hb, hv]
theorem yLdB {a : Operand} {T : TypeId} {b o : Nat} {v : Value} {cs : List Value} {t : TypeId} {fr : Nat × Nat} (hp : ρ a = .pointer (some ⟨b, o, none⟩)) (hT : ∀ w, (isAgg T).run P w = .ok false w)
    (hb : w.heap[b]? = some (.cells cs.toArray t fr)) (hv : cs[o]? = some v) : Y P ρ (.load T a) ty w v w := yLd hp hT (cell_of hb hv)
/-- The cells from an address on. -/
def Cells (w : World) (b o : Nat) (vs : List Value) : Prop := ∀ j v, vs[j]? = some v → w.cell? ⟨b, o + j, none⟩ = some v
theorem Cells.ext {w w' : World} (e : Ext w w') {b o : Nat} {vs : List Value} (h : Cells w b o vs) : Cells w' b o vs := fun j v hv => e.cell (h j v hv)
theorem yLdA {a : Operand} {T : TypeId} {b o k : Nat} {vs : List Value} (hp : ρ a = .pointer (some ⟨b, o, none⟩)) (hT : ∀ w, (isAgg T).run P w = .ok true w) (hs : ∀ w, (Go.sizeOf T).run P w = .ok k w)
    (hc : Cells w b o vs) (hl : vs.length = k) : Y P ρ (.load T a) ty w (.agg vs.toArray) w := by
  have h := run_loadCells_list (P := P) w ⟨b, o, none⟩ vs (fun j v hv => by rw [addr_add]; exact hc j v hv)
  rw [hl] at h
  simp [Y, xop, execOp, hp, Instr.loadAt, Instr.sureAddr, loadVar, hT, hs, h]
theorem yLdBA {a : Operand} {T : TypeId} {b o k : Nat} {cs vs : List Value} {t : TypeId} {fr : Nat × Nat} (hp : ρ a = .pointer (some ⟨b, o, none⟩)) (hT : ∀ w, (isAgg T).run P w = .ok true w)
    (hs : ∀ w, (Go.sizeOf T).run P w = .ok k w) (hb : w.heap[b]? = some (.cells cs.toArray t fr)) (hv : (cs.drop o).take k = vs) (hl : vs.length = k) : Y P ρ (.load T a) ty w (.agg vs.toArray) w := by
  refine yLdA hp hT hs (fun j v hj => cell_of hb ?_) hl
  subst hv
  have h1 : j < k := by
    have := (List.getElem?_eq_some_iff.1 hj).1
    rw [hl] at this
    exact this
  simpa [List.getElem?_take, h1, List.getElem?_drop] using hj
theorem yFA {x : Operand} {T : TypeId} {i b o k sz : Nat} {fs : Array Field} {fl : Field} (hx : ρ x = .pointer (some ⟨b, o, none⟩)) (hu : ∀ w, (underlying T).run P w = .ok (.struct fs) w) (hf : fs[i]? = some fl)
    (hk : fl.offset = k) (hs : ∀ w, (Go.sizeOf fl.type).run P w = .ok sz w) (hz : sz ≠ 0) : Y P ρ (.fieldAddr T x i) ty w (.pointer (some ⟨b, o + k, none⟩)) w := by
  simp [Y, xop, execOp, hx, Instr.fieldAt, Instr.sureAddr, hu, hf, fieldPlace, hs, hz, hk, addr_add]
theorem yIx {x i : Operand} {T e : TypeId} {b o len cap k : Nat} {kd : IntKind} {m : Int} (hx : ρ x = .slice (some ⟨b, o, none⟩) len cap) (hi : ρ i = .int kd m) (hu : ∀ w, (underlying T).run P w = .ok (.slice e) w)
    (hs : ∀ w, (Go.sizeOf e).run P w = .ok k w) (h0 : 0 ≤ m) (h1 : m < len) : Y P ρ (.indexAddr T x i) ty w (.pointer (some ⟨b, o + m.toNat * k, none⟩)) w := by
  simp [Y, xop, execOp, hx, hi, Instr.indexAt, asIntOf, hu, hs, h0, h1, addr_add]
def Evs (ρ : Operand → Value) (xs : List Operand) (vs : List Value) : Prop := xs.map ρ = vs
theorem Evs.nil : Evs ρ [] [] := rfl
theorem Evs.cons {x : Operand} {v : Value} {xs : List Operand} {vs : List Value} (hx : ρ x = v) (h : Evs ρ xs vs) : Evs ρ (x :: xs) (v :: vs) := by
 unfold Evs at *
 rw [List.map_cons, hx, h]
theorem yFn {g : Nat} {cap : List Operand} {vs : List Value} (h : Evs ρ cap vs) : Y P ρ (.makeFunc (.func g) #[] cap.toArray) ty w (.func (.func g) #[] vs.toArray) w := by
 unfold Evs at h
 simp [Y, xop, execOp, Instr.makeFunc, h]
def fillL (place : Nat → Option (Nat × Nat)) (cells : List Value) : List (Nat × List Value) → Option (List Value)
 | [] => some cells
 | (i, vs) :: rest =>
  match place i with
  | none => none
  | some (off, size) => if (vs.length == size && Nat.ble (off + vs.length) cells.length) = true then fillL place (splice cells off vs) rest else none
theorem foldl_splice : ∀ (vs : List Value) (off j : Nat) (cells : Array Value), off + j + vs.length ≤ cells.size →
    ((vs.zipIdx j).foldl (fun cs (x : Value × Nat) => cs.setIfInBounds (off + x.2) x.1) cells).toList = splice cells.toList (off + j) vs
  | [], off, j, cells, h => by simp [splice]
  | v :: rest, off, j, cells, h => by
    simp only [List.length_cons] at h
    simp only [List.zipIdx_cons, List.foldl_cons]
    have hi : off + j < cells.toList.length := by simp; omega
    have ih := foldl_splice rest off (j + 1) (cells.setIfInBounds (off + j) v) (by simp; omega)
    rw [ih]
    have e : cells.toList.set (off + j) v = cells.toList.take (off + j) ++ v :: cells.toList.drop (off + j + 1) := by rw [List.set_eq_take_append_cons_drop, if_pos hi]
    have e1 : (cells.toList.take (off + j)).length = off + j := by rw [List.length_take]; omega
    unfold splice
    rw [Array.toList_setIfInBounds, e, show off + (j + 1) = off + j + 1 by omega, take_mid _ _ _ _ e1, drop_mid _ _ _ _ _ e1, List.drop_drop, List.length_cons]
    simp only [List.append_assoc, List.cons_append, List.nil_append]
    rw [show off + j + 1 + rest.length = off + j + (rest.length + 1) by omega]
theorem fill_eq (place : Nat → Option (Nat × Nat)) : ∀ (parts : List (Nat × Value)) (cells : Array Value) (r : List Value),
    fillL place cells.toList (parts.map fun p => (p.1, p.2.cells.toList)) = some r → Instr.fill place cells parts = some r.toArray
  | [], cells, r, h => by
    simp only [List.map_nil, fillL, Option.some.injEq] at h
    subst h
    simp [Instr.fill]
  | (i, v) :: rest, cells, r, h => by
    simp only [List.map_cons, fillL] at h
    simp only [Instr.fill]
    split at h
    · cases h
    · rename_i off size hp
      simp only [hp]
      split at h
      · rename_i hc
        simp only [Bool.and_eq_true, beq_iff_eq, Nat.ble_eq] at hc
        obtain ⟨h1, h2⟩ := hc
        rw [if_neg (by simp at h1 h2 ⊢; omega)]
        refine fill_eq place rest _ r ?_
        have hf := foldl_splice v.cells.toList off 0 cells (by simp at h2 ⊢; omega)
        rw [Nat.add_zero] at hf
        rw [← Array.foldl_toList, Array.toList_zipIdx]
        rw [hf]
        exact h
      · cases h
def PartsAre (ρ : Operand → Value) (ps : List (Nat × Operand)) (vs : List (Nat × List Value)) : Prop := ps.map (fun p => (p.1, (ρ p.2).cells.toList)) = vs
theorem PartsAre.nil : PartsAre ρ [] [] := rfl
theorem PartsAre.cons {i : Nat} {x : Operand} {v : Value} {cs : List Value} {ps : List (Nat × Operand)} {vs : List (Nat × List Value)} (hx : ρ x = v) (hc : v.cells.toList = cs) (h : PartsAre ρ ps vs) :
    PartsAre ρ ((i, x) :: ps) ((i, cs) :: vs) := by
  unfold PartsAre at *
  rw [List.map_cons, h, hx, hc]
theorem map_parts (ps : List (Nat × Operand)) : ((ps.toArray.map fun (i, x) => (i, ρ x)).toList).map (fun p => (p.1, p.2.cells.toList)) = ps.map (fun p => (p.1, (ρ p.2).cells.toList)) := by
 simp [List.map_map, Function.comp_def]
/-- Where the fields of a struct lie. -/
def Places (P : Program) (T : TypeId) (pl : Array (Nat × Nat)) : Prop := ∃ fs, P.underlying T = some (.struct fs) ∧ ∀ w, (fs.mapM (fun (f : Field) => do pure (f.offset, ← Go.sizeOf f.type)) : Sem _).run P w = .ok pl w
/-- A struct's literal. -/
theorem yBuild {T : TypeId} {ps : List (Nat × Operand)} {z : Value} {zs r : List Value} {pl : Array (Nat × Nat)} {vs : List (Nat × List Value)} (hz : ∀ w, (zeroValue T).run P w = .ok z w) (hzs : z.cells.toList = zs)
    (hpl : Places P T pl) (hv : PartsAre ρ ps vs) (hf : fillL (pl[·]?) zs vs = some r) : Y P ρ (.build T ps.toArray) ty w (.agg r.toArray) w := by
  obtain ⟨fs, hu, hpl⟩ := hpl
  have h := fill_eq (pl[·]?) ((ps.toArray.map fun (i, x) => (i, ρ x)).toList) z.cells r (by rw [map_parts, hv, hzs]; exact hf)
  simp only [Y, xop, execOp, Instr.build, Sem.run_bind, hz, Result.andThen_ok, run_underlying hu, hpl, h]
  rfl
end
section
variable {P : Program} {ops : Array Oper} {Q : Exit → Act → World → Prop} {n : Nat} {l : List Oper} {f : Fr} {S : List Nat} {w0 w w' : World} {L : List Item} {rest : List Oper} {d : Nat} {ty : TypeId} {pos : String} {af : Array Edge}
theorem sbox {T : TypeId} {x : Operand} {v : Value} {cs : List Value} (hS : StX S w0 w L) (hx : ev n f x = v) (hc : v.cells.toList = cs)
    (h : ∀ b w', StX S w0 w' (blk b cs T :: L) → wpL P ops Q n rest (upd f d (.pointer (some ⟨b, 0, none⟩))) w') : wpL P ops Q n (⟨some d, .box T x, ty, pos, af, none⟩ :: rest) f w := by
  refine sv (v := .pointer (some ⟨w.heap.size, 0, none⟩)) (w' := w.alloc (.cells cs.toArray T (0, 0))) ?_ (h w.heap.size _ (hS.call1 (St.new w _)))
  subst hx hc
  simp [Y, xop, execOp, Instr.box, newVar, newRow]
theorem salloc {T : TypeId} {z : Value} {cs : List Value} (hS : StX S w0 w L) (hz : ∀ w, (zeroValue T).run P w = .ok z w) (hc : z.cells.toList = cs)
    (h : ∀ b w', StX S w0 w' (blk b cs T :: L) → wpL P ops Q n rest (upd f d (.pointer (some ⟨b, 0, none⟩))) w') : wpL P ops Q n (⟨some d, .alloc T, ty, pos, af, none⟩ :: rest) f w := by
  refine sv (v := .pointer (some ⟨w.heap.size, 0, none⟩)) (w' := w.alloc (.cells cs.toArray T (0, 0))) ?_ (h w.heap.size _ (hS.call1 (St.new w _)))
  subst hc
  simp [Y, xop, execOp, Instr.alloc, hz, newVar, newRow]
theorem wpL_skip {op : Op} (hr : (xop (ev n f) op ty).run P w = .ok .skip w') (h : wpL P ops Q n rest f w') : wpL P ops Q n (⟨none, op, ty, pos, af, none⟩ :: rest) f w := by
 refine wpL_run rfl ?_
 unfold Oper.wp
 rw [mk_eval, execOp_xop, hr]
 exact h
theorem run_store_at {T : TypeId} {ρ : Operand → Value} {a x : Operand} {b o k : Nat} {v : Value} {cs vs : List Value} {t : TypeId} (hp : ρ a = .pointer (some ⟨b, o, none⟩)) (hx : ρ x = v) (hs : ∀ w, (Go.sizeOf T).run P w = .ok k w)
    (hb : w.heap[b]? = some (.cells cs.toArray t (0, 0))) (hv : v.cells.toList = vs) (hk : vs.length = k) (ho : Nat.ble (o + k) cs.length = true) (h1 : vs.all (·.oneCell') = true) :
    ∃ w', (xop ρ (.store T a x) ty).run P w = .ok .skip w' ∧ Put b (.cells (splice cs o vs).toArray t (0, 0)) w w' := by
  rw [Nat.ble_eq] at ho
  obtain ⟨w', hr, hq⟩ := run_storeAt (P := P) vs o 0 cs w hb (by omega) (fun v hv => List.all_eq_true.1 h1 v hv)
  refine ⟨w', ?_, hq⟩
  have hsz : v.cells.size = k := by rw [← hk, ← hv]; simp
  simp [xop, execOp, hp, hx, Instr.storeAt, Instr.sureAddr, storeVar, hs, hsz, hv, hr]
theorem sst {T : TypeId} {a x : Operand} {b o k : Nat} {v : Value} {cs vs : List Value} {t : TypeId} {L' : List Item} (hS : StX S w0 w L) (hp : ev n f a = .pointer (some ⟨b, o, none⟩)) (hx : ev n f x = v)
    (hs : ∀ w, (Go.sizeOf T).run P w = .ok k w) (hv : v.cells.toList = vs) (hk : vs.length = k) [i : AtB L b (Eq (.cells cs.toArray t (0, 0)))] (ho : Nat.ble (o + k) cs.length = true) (h1 : vs.all (·.oneCell') = true)
    [j : SetB L b (Eq (.cells (splice cs o vs).toArray t (0, 0))) L'] (h : ∀ w', StX S w0 w' L' → wpL P ops Q n rest f w') : wpL P ops Q n (⟨none, .store T a x, ty, pos, af, none⟩ :: rest) f w := by
  obtain ⟨w', hr, hq⟩ := run_store_at (ty := ty) hp hx hs (hS.at b) hv hk ho h1
  exact wpL_skip hr (h w' (hS.put hq))
/-- A call that returns a value of which R holds, in the world that is left. -/
def CE (P : Program) (g : FuncId) (args : Array Value) (w : World) (R : Value → World → Prop) : Prop := Calls P g args w fun e w' => ∃ v, e = .returned v ∧ R v w'
/-- A call that returns v, and changes nothing that was there. -/
abbrev CV (P : Program) (g : FuncId) (args : Array Value) (w : World) (v : Value) : Prop := CE P g args w fun u w' => u = v ∧ Ext w w'
theorem CE.mono {g : FuncId} {args : Array Value} {R R' : Value → World → Prop} (h : CE P g args w R) (hr : ∀ v w', R v w' → R' v w') : CE P g args w R' :=
 Calls.mono h fun _ _ ⟨v, he, hR⟩ => ⟨v, he, hr _ _ hR⟩
theorem enter_run {ρ : Operand → Value} {fx : Operand} {args : List Operand} {ts : Array TypeId} {g : FuncId} {vs : List Value} {caps : Array Value} (hf : ρ fx = .func (.func g) #[] caps) (ha : Evs ρ args vs)
    (hc : ∀ ars w, (callFunc g ars).run P w = .ok (.enter g ars) w) : (xop ρ (.call ⟨.value fx, args.toArray, ts⟩) ty).run P w = .ok (.enter g (vs.toArray ++ caps)) w := by
  unfold Evs at ha
  simp only [xop, execOp, resolve, hf, Deferred.ofValue, Sem.run_bind, Sem.run_pure, Result.andThen_ok, invoke, hc, List.map_toArray, ha]
  simp
theorem scallV {op : Op} {g : FuncId} {args : Array Value} {R : Value → World → Prop} (hr : (xop (ev n f) op ty).run P w = .ok (.enter g args) w) (hC : CE P g args w R)
    (h : ∀ v w', R v w' → wpL P ops Q n rest (upd f d v) w') : wpL P ops Q n (⟨some d, op, ty, pos, af, none⟩ :: rest) f w := by
  refine wpL_run rfl ?_
  unfold Oper.wp
  rw [mk_eval, execOp_xop, hr]
  refine Calls.mono hC ?_
  rintro e w' ⟨v, rfl, hR⟩
  show wpList P ops Q rest ((mk n f).put (some d) v) w'
  rw [mk_put]
  exact h v w' hR
/-- A call of a function by its name. -/
theorem scall {g : FuncId} {xs : List Operand} {ts : Array TypeId} {vs : List Value} {R : Value → World → Prop} (hc : ∀ ars w, (callFunc g ars).run P w = .ok (.enter g ars) w) (ha : Evs (ev n f) xs vs) (hC : CE P g vs.toArray w R)
    (h : ∀ v w', R v w' → wpL P ops Q n rest (upd f d v) w') : wpL P ops Q n (⟨some d, .call ⟨.value (.func g), xs.toArray, ts⟩, ty, pos, af, none⟩ :: rest) f w := by
  have hr := enter_run (P := P) (ρ := ev n f) (w := w) (ty := ty) (ts := ts) (fx := .func g) rfl ha hc
  rw [Array.append_empty] at hr
  exact scallV hr hC h
/-- A call of a function value. -/
theorem scallf {fx : Operand} {g : FuncId} {xs : List Operand} {ts : Array TypeId} {vs cl : List Value} {R : Value → World → Prop} (hf : ev n f fx = .func (.func g) #[] cl.toArray) (hc : ∀ ars w, (callFunc g ars).run P w = .ok (.enter g ars) w)
    (ha : Evs (ev n f) xs vs) (hC : CE P g (vs ++ cl).toArray w R)
    (h : ∀ v w', R v w' → wpL P ops Q n rest (upd f d v) w') : wpL P ops Q n (⟨some d, .call ⟨.value fx, xs.toArray, ts⟩, ty, pos, af, none⟩ :: rest) f w := by
  have hr := enter_run (P := P) (ρ := ev n f) (w := w) (ty := ty) (ts := ts) hf ha hc
  rw [List.append_toArray] at hr
  exact scallV hr hC h
theorem enter {g : FuncId} {fn : Func} {c : Code} {args : List Value} {R : Value → World → Prop} (hf : P.funcs[g]? = some fn) (hb : fn.body = some c) (hn : fn.ntmps = n) (hl : Nat.ble args.length n = true)
    (h : c.wp P (bodyPost P fn fun e w' => ∃ v, e = .returned v ∧ R v w') (mk n (ini args)) w) : CE P g args.toArray w R := by
  rw [Nat.ble_eq] at hl
  refine calls_of_wp hf hb ?_
  have : ({ tmps := args.toArray ++ Array.replicate (fn.ntmps - args.toArray.size) undef, defers := [] } : Act) = mk n (ini args) := by
    simp only [mk, Act.mk.injEq, and_true]
    apply Array.ext_getElem?
    intro t
    rw [hn]
    simp only [Array.getElem?_append, List.size_toArray, List.getElem?_toArray, Array.getElem?_replicate, List.getElem?_map]
    have hi : ini args t = args.getD t undef := rfl
    by_cases h1 : t < args.length
    · simp [h1, hi, show t < n by omega, List.getD]
    · by_cases h2 : t < n
      · simp [h1, h2, hi, List.getD, show t - args.length < n - args.length by omega]
      · simp [h1, h2, show ¬ t - args.length < n - args.length by omega]
  rw [this]
  exact h
theorem seq {x y : Code} {a : Act} (h : x.wp P (Exit.then (y.wp P Q) Q) a w) : (Code.seq x y).wp P Q a w := wp_seq h
theorem block {id : Nat} {c : Code} {a : Act} (h : c.wp P (Exit.inBlock id Q) a w) : (Code.block id c).wp P Q a w := wp_block h
theorem skip {a : Act} (h : Q .normal a w) : Code.skip.wp P Q a w := wp_skip h
theorem exit {id : Nat} {a : Act} (h : Q (.exit id) a w) : (Code.exit id).wp P Q a w := wp_exit h
theorem cond {c : Operand} {x y : Code} {B : Bool} (hc : ev n f c = .bool B) (ht : B = true → x.wp P Q (mk n f) w) (hf : B = false → y.wp P Q (mk n f) w) : (Code.cond c x y).wp P Q (mk n f) w :=
 wp_cond_split (t := B) (by rw [mk_eval]; exact hc) ht hf
theorem ret {fn : Func} {R : Ending → World → Prop} {v : Value} (hr : (results fn (mk n f).tmps).run P w = .ok v w) (h : R (.returned v) w) : Code.ret.wp P (bodyPost P fn R) (mk n f) w :=
 wp_ret ⟨rfl, v, hr, h⟩
theorem retQ {fn : Func} {R : Value → World → Prop} {v : Value} (hr : (results fn (mk n f).tmps).run P w = .ok v w) (h : R v w) : bodyPost P fn (fun e w' => ∃ v, e = .returned v ∧ R v w') .ret (mk n f) w :=
 ⟨rfl, v, hr, v, rfl, h⟩
theorem retN {fn : Func} {R : Value → World → Prop} {v : Value} (hr : (results fn (mk n f).tmps).run P w = .ok v w) (h : R v w) : bodyPost P fn (fun e w' => ∃ v, e = .returned v ∧ R v w') .normal (mk n f) w :=
 ⟨rfl, v, hr, v, rfl, h⟩
theorem thenR {a : Act} {K : Act → World → Prop} (h : Q .ret a w) : Exit.then K Q .ret a w := h
theorem blockR {a : Act} {id : Nat} (h : Q .ret a w) : Exit.inBlock id Q .ret a w := h
theorem retV {fn : Func} {v : Value} (hr : (results fn (mk n f).tmps).run P w = .ok v w) (h : Ext w0 w) : bodyPost P fn (fun e w' => ∃ u, e = .returned u ∧ u = v ∧ Ext w0 w') .ret (mk n f) w :=
 ⟨rfl, v, hr, v, rfl, rfl, h⟩
theorem getD_mk (n : Nat) (f : Fr) (t : Nat) : (mk n f).tmps.getD t undef = ev n f (.tmp t) := by
 have := congrFun (mk_eval n f) (.tmp t)
 exact this
theorem res1 {fn : Func} {t : Tmp} {v : Value} (h : fn.results = #[.tmp t]) (hv : ev n f (.tmp t) = v) : (results fn (mk n f).tmps).run P w = .ok v w := by
 rw [results_tmp h, getD_mk, hv]
theorem res2 {fn : Func} {t u : Tmp} {v v' : Value} (h : fn.results = #[.tmp t, .tmp u]) (hv : ev n f (.tmp t) = v) (hv' : ev n f (.tmp u) = v') : (results fn (mk n f).tmps).run P w = .ok (.tuple #[v, v']) w := by
 rw [results_tmp2 h, getD_mk, getD_mk, hv, hv']
theorem res3 {fn : Func} {t u s : Tmp} {v v' v'' : Value} (h : fn.results = #[.tmp t, .tmp u, .tmp s]) (hv : ev n f (.tmp t) = v) (hv' : ev n f (.tmp u) = v') (hv'' : ev n f (.tmp s) = v'') :
    (results fn (mk n f).tmps).run P w = .ok (.tuple #[v, v', v'']) w := by
  subst hv hv' hv''
  rw [← getD_mk, ← getD_mk, ← getD_mk]
  simp [results, h]
theorem loop {c : Code} {a : Act} (I : Fr → World → Nat → Prop) (k : Nat) (h0 : ∃ f, a = mk n f ∧ I f w k) (hstep : ∀ f w k, I f w k → c.wp P (Exit.then (fun a' w' => ∃ f' k', a' = mk n f' ∧ I f' w' k' ∧ k' < k) Q) (mk n f) w) : (Code.loop c).wp P Q a w := by
 obtain ⟨f, rfl, hI⟩ := h0
 intro b kk cs
 have key : ∀ k f w, I f w k → ∃ e a' w', Q e a' w' ∧ Arrives P (lone (b.at (mk n f) (.code c :: .inLoop c :: kk)) cs w) b kk cs e a' w' := by
  intro k
  induction k using Nat.strongRecOn with
  | _ k ih =>
   intro f w hI
   obtain ⟨e, a₁, w₁, hq, harr⟩ := hstep f w k hI b (.inLoop c :: kk) cs
   cases e with
   | normal =>
    obtain ⟨f', k', rfl, hI', hlt⟩ := hq
    obtain ⟨e₂, a₂, w₂, hq₂, harr₂⟩ := ih k' hlt f' w₁ hI'
    exact ⟨e₂, a₂, w₂, hq₂, .of_steps (Steps.trans harr (.one step_inLoop)) harr₂⟩
   | exit id => exact ⟨_, a₁, w₁, hq, .pass (x := .inLoop c) rfl (fun _ _ => .inl (by simp)) harr⟩
   | goto l => exact ⟨_, a₁, w₁, hq, .pass (x := .inLoop c) rfl (fun _ _ => .inl (by simp)) harr⟩
   | ret => exact ⟨_, a₁, w₁, hq, .pass (x := .inLoop c) rfl (fun _ _ => .inl (by simp)) harr⟩
   | panic ch => exact ⟨_, a₁, w₁, hq, .pass (x := .inLoop c) rfl (fun _ _ => .inl (by simp)) harr⟩
   | outgrown => exact ⟨_, a₁, w₁, hq, .pass (x := .inLoop c) rfl (fun _ _ => .inl (by simp)) harr⟩
 obtain ⟨e, a', w', hq, harr⟩ := key k f w hI
 exact ⟨e, a', w', hq, .of_steps (.one step_loop) harr⟩
end
section
variable {P : Program} {ρ : Operand → Value} {w : World} {ty : TypeId}
theorem yMax {x y : Operand} {k : IntKind} {a b : Int} {t t' : TypeId} (hx : ρ x = .int k a) (hy : ρ y = .int k b) : Y P ρ (.call ⟨.builtin .max, #[x, y], #[t, t']⟩) ty w (.int k (max a b)) w := by
 have : (if b > a then b else a) = max a b := by rw [Int.max_def]; split <;> split <;> omega
 simp [Y, xop, execOp, hx, hy, resolve, invoke, builtin, Builtin.max_, Builtin.max2, this]
theorem yMin {x y : Operand} {k : IntKind} {a b : Int} {t t' : TypeId} (hx : ρ x = .int k a) (hy : ρ y = .int k b) : Y P ρ (.call ⟨.builtin .min, #[x, y], #[t, t']⟩) ty w (.int k (min a b)) w := by
 have : (if b < a then b else a) = min a b := by rw [Int.min_def]; split <;> split <;> omega
 simp [Y, xop, execOp, hx, hy, resolve, invoke, builtin, Builtin.min_, Builtin.min2, this]
theorem yNeg {x : Operand} {a : Int} {t : TypeId} (hx : ρ x = .int .i64 a) (h : I64 (-a)) : Y P ρ (.unOp .neg t x) ty w (.int .i64 (-a)) w := by
 have e := wrap_in h
 simp [Y, xop, execOp, hx, Op.unary, Op.intArith, e]
theorem yQuo {x y : Operand} {a b : Int} {t t' : TypeId} (hx : ρ x = .int .i64 a) (hy : ρ y = .int .i64 b) (hb : 0 < b) (ha : -9223372036854775807 ≤ a ∧ a ≤ 9223372036854775807) : Y P ρ (.binOp .quo t x y t') ty w (.int .i64 (a.tdiv b)) w := by
 have h0 : b ≠ 0 := by omega
 have e : IntKind.i64.wrap (a.tdiv b) = a.tdiv b := by
  obtain ⟨h1, h2⟩ := ha
  have := Int.natAbs_tdiv_le_natAbs a b
  exact wrap_in ⟨by omega, by omega⟩
 simp [Y, xop, execOp, hx, hy, eqGuard, binOp, Op.intDiv, h0, e]
end
section
variable {P : Program} {ops : Array Oper} {Q : Exit → Act → World → Prop} {n : Nat} {f : Fr} {S : List Nat} {w0 w w' : World} {L : List Item} {rest : List Oper} {d : Nat} {ty : TypeId} {pos : String} {af : Array Edge}
theorem wpL_gcall {j : Nat} {want : Bool} {dj : Nat} {g : FuncId} {xs : List Operand} {ts : Array TypeId} {vs : List Value} {v : Value} (hS : StX S w0 w L) (hd : dstOf ops j = some dj) (hn : Nat.blt dj n = true) {G : Prop}
    (hG : G ↔ f dj = .bool want) (hc : ∀ ars w, (callFunc g ars).run P w = .ok (.enter g ars) w) (ha : G → Evs (ev n f) xs vs) (hC : G → CV P g vs.toArray w v)
    (h : ∀ v' w', StX S w0 w' L → Cnd G v' v → wpL P ops Q n rest (upd f d v') w') :
    wpL P ops Q n (⟨some d, .call ⟨.value (.func g), xs.toArray, ts⟩, ty, pos, af, some (j, want)⟩ :: rest) f w := by
  rw [Nat.blt_eq] at hn
  have hy := yielded_eq (f := f) hd hn
  by_cases g' : G
  · have hf := hG.1 g'
    have := scall (P := P) (ops := ops) (Q := Q) (rest := rest) (d := d) (ty := ty) (pos := pos) (af := af) (ts := ts) hc (ha g') (hC g') (fun v' w' (hR : v' = v ∧ Ext w w') => h v' w' (hS.step hR.2) ⟨fun _ => hR.1, fun hn => absurd g' hn⟩)
    unfold wpL at this ⊢
    unfold wpList at this ⊢
    rw [hf] at hy
    rw [if_pos (by simp [Region.wanted, hy])]
    rw [if_pos (by simp [Region.wanted])] at this
    exact this
  · have hf : f dj ≠ .bool want := fun e => g' (hG.2 e)
    unfold wpL
    unfold wpList
    rw [if_neg (by
      simp only [Region.wanted, hy]
      intro hc
      cases hv : f dj <;> simp [hv] at hc
      rename_i b
      exact hf (by rw [hv, hc]))]
    show wpList P ops Q rest ((mk n f).put (some d) undef) w
    rw [mk_put]
    exact h undef w hS ⟨fun hg => absurd hg g', fun _ => rfl⟩
theorem sgc {j : Nat} {want : Bool} {dj : Nat} {g : FuncId} {xs : List Operand} {ts : Array TypeId} {vs : List Value} {v : Value} {B : Bool} (hS : StX S w0 w L) (hd : dstOf ops j = some dj) (hn : Nat.blt dj n = true) (hb : f dj = .bool B)
    (hc : ∀ ars w, (callFunc g ars).run P w = .ok (.enter g ars) w) (ha : B = want → Evs (ev n f) xs vs) (hC : B = want → CV P g vs.toArray w v)
    (h : ∀ v' w', StX S w0 w' L → Cnd (B = want) v' v → wpL P ops Q n rest (upd f d v') w') :
    wpL P ops Q n (⟨some d, .call ⟨.value (.func g), xs.toArray, ts⟩, ty, pos, af, some (j, want)⟩ :: rest) f w :=
  wpL_gcall hS hd hn (by rw [hb]; simp) hc ha hC h
def wpQ (P : Program) (ops : Array Oper) (S : List Nat) (w0 : World) (L : List Item) (K : Act → Prop) (n : Nat) (l : List Oper) (f : Fr) : Prop := wpQuiet P ops (fun w => StX S w0 w L) K l (mk n f)
variable {K : Act → Prop}
theorem region_draw {id : Nat} {l : List Oper} (hm : P.follows .mixedOrders = true) (hB : Region.lexB .any l.toArray = true) (hS : StX S w0 w L)
    (h : wpQ P l.toArray S w0 L (fun a => ∀ w', StX S w0 w' L → Q .normal a w') n l f) : (Code.region id l.toArray true).wp P Q (mk n f) w :=
  wp_region_quiet (C := fun w => StX S w0 w L) hm hB (hS.step (ext_drew w)) h
theorem qnil (h : K (mk n f)) : wpQ P ops S w0 L K n [] f := h
theorem qv {op : Op} {v : Value} (hr : ∀ w, StX S w0 w L → Y P (ev n f) op ty w v w) (h : wpQ P ops S w0 L K n rest (upd f d v)) : wpQ P ops S w0 L K n (⟨some d, op, ty, pos, af, none⟩ :: rest) f := by
 unfold wpQ
 unfold wpQuiet
 rw [if_pos (by simp [Region.wanted])]
 refine ⟨v, fun w hw => ?_, ?_⟩
 ·
  unfold Oper.quietAt
  rw [mk_eval, execOp_xop, hr w hw]
  exact ⟨rfl, rfl⟩
 ·
  show wpQuiet _ _ _ _ _ ((mk n f).put (some d) v)
  rw [mk_put]
  exact h
theorem qcallV {op : Op} {g : FuncId} {args : Array Value} {v : Value} (hr : ∀ w, (xop (ev n f) op ty).run P w = .ok (.enter g args) w) (hC : ∀ w, StX S w0 w L → CV P g args w v)
    (h : wpQ P ops S w0 L K n rest (upd f d v)) : wpQ P ops S w0 L K n (⟨some d, op, ty, pos, af, none⟩ :: rest) f := by
  unfold wpQ
  unfold wpQuiet
  rw [if_pos (by simp [Region.wanted])]
  refine ⟨v, fun w hw => ?_, ?_⟩
  · unfold Oper.quietAt
    rw [mk_eval, execOp_xop, hr w]
    refine ⟨rfl, Calls.mono (hC w hw) ?_⟩
    rintro e w' ⟨u, rfl, rfl, he⟩
    exact ⟨rfl, hw.step he⟩
  · show wpQuiet _ _ _ _ _ ((mk n f).put (some d) v)
    rw [mk_put]
    exact h
theorem qcall {g : FuncId} {xs : List Operand} {ts : Array TypeId} {vs : List Value} {v : Value} (hc : ∀ ars w, (callFunc g ars).run P w = .ok (.enter g ars) w) (ha : Evs (ev n f) xs vs) (hC : ∀ w, StX S w0 w L → CV P g vs.toArray w v)
    (h : wpQ P ops S w0 L K n rest (upd f d v)) : wpQ P ops S w0 L K n (⟨some d, .call ⟨.value (.func g), xs.toArray, ts⟩, ty, pos, af, none⟩ :: rest) f := by
  refine qcallV (fun w => ?_) hC h
  have hr := enter_run (P := P) (ρ := ev n f) (w := w) (ty := ty) (ts := ts) (fx := .func g) rfl ha hc
  rw [Array.append_empty] at hr
  exact hr
theorem wpQ_guard {j : Nat} {want : Bool} {dj : Nat} {op : Op} (hd : dstOf ops j = some dj) (hn : Nat.blt dj n = true) {G : Prop} {v : Value}
    (hG : G ↔ f dj = .bool want)
    (hr : G → ∀ w, StX S w0 w L → (xop (ev n f) op ty).run P w = .ok (.value v) w ∨ ∃ g args, (xop (ev n f) op ty).run P w = .ok (.enter g args) w ∧ CV P g args w v)
    (h : ∀ v', Cnd G v' v → wpQ P ops S w0 L K n rest (upd f d v')) :
    wpQ P ops S w0 L K n (⟨some d, op, ty, pos, af, some (j, want)⟩ :: rest) f := by
  rw [Nat.blt_eq] at hn
  unfold wpQ
  unfold wpQuiet
  have hy := yielded_eq (f := f) hd hn
  by_cases g : G
  · have hf := hG.1 g
    rw [hf] at hy
    rw [if_pos (by simp [Region.wanted, hy])]
    refine ⟨v, fun w hw => ?_, ?_⟩
    · unfold Oper.quietAt
      rw [mk_eval, execOp_xop]
      rcases hr g w hw with h1 | ⟨g', args, h1, h2⟩
      · rw [h1]
        exact ⟨rfl, rfl⟩
      · rw [h1]
        refine ⟨rfl, Calls.mono h2 ?_⟩
        rintro e w' ⟨u, rfl, rfl, he⟩
        exact ⟨rfl, hw.step he⟩
    · show wpQuiet _ _ _ _ _ ((mk n f).put (some d) v)
      rw [mk_put]
      exact h v ⟨fun _ => rfl, fun hn => absurd g hn⟩
  · have hf : f dj ≠ .bool want := fun e => g (hG.2 e)
    rw [if_neg (by
      simp only [Region.wanted, hy]
      intro hc
      cases hv : f dj <;> simp [hv] at hc
      rename_i b
      exact hf (by rw [hv, hc]))]
    show wpQuiet _ _ _ _ _ ((mk n f).put (some d) undef)
    rw [mk_put]
    exact h undef ⟨fun hg => absurd hg g, fun _ => rfl⟩
theorem qg {j : Nat} {want : Bool} {dj : Nat} {op : Op} {B : Bool} {v : Value} (hd : dstOf ops j = some dj) (hn : Nat.blt dj n = true) (hb : f dj = .bool B) (hr : B = want → ∀ w, StX S w0 w L → Y P (ev n f) op ty w v w)
    (h : ∀ v', Cnd (B = want) v' v → wpQ P ops S w0 L K n rest (upd f d v')) : wpQ P ops S w0 L K n (⟨some d, op, ty, pos, af, some (j, want)⟩ :: rest) f :=
  wpQ_guard hd hn (by rw [hb]; simp) (fun g w hw => .inl (hr g w hw)) h
theorem enterF {g : FuncId} {xs : List Operand} {ts : Array TypeId} {vs : List Value} (hc : ∀ ars w, (callFunc g ars).run P w = .ok (.enter g ars) w) (ha : Evs (ev n f) xs vs) :
    (xop (ev n f) (.call ⟨.value (.func g), xs.toArray, ts⟩) ty).run P w = .ok (.enter g vs.toArray) w := by
  have hr := enter_run (P := P) (ρ := ev n f) (w := w) (ty := ty) (ts := ts) (fx := .func g) rfl ha hc
  rw [Array.append_empty] at hr
  exact hr
theorem qgc {j : Nat} {want : Bool} {dj : Nat} {B : Bool} {g : FuncId} {xs : List Operand} {ts : Array TypeId} {vs : List Value} {v : Value} (hd : dstOf ops j = some dj) (hn : Nat.blt dj n = true) (hb : f dj = .bool B)
    (hc : ∀ ars w, (callFunc g ars).run P w = .ok (.enter g ars) w) (ha : B = want → Evs (ev n f) xs vs) (hC : B = want → ∀ w, StX S w0 w L → CV P g vs.toArray w v)
    (h : ∀ v', Cnd (B = want) v' v → wpQ P ops S w0 L K n rest (upd f d v')) : wpQ P ops S w0 L K n (⟨some d, .call ⟨.value (.func g), xs.toArray, ts⟩, ty, pos, af, some (j, want)⟩ :: rest) f :=
  wpQ_guard hd hn (by rw [hb]; simp) (fun g' w hw => .inr ⟨g, _, enterF hc (ha g'), hC g' w hw⟩) h
end
section
variable {κ : Type} [DecidableEq κ]
def MapOk (enc : κ → Value) (m : List (κ × Value)) : Obj → Prop := fun o => ∃ es c, o = .map es c ∧ es.toList.map (fun e => (e.key, e.val)) = m.map (fun p => (enc p.1, p.2))
abbrev mapI (b : Nat) (enc : κ → Value) (m : List (κ × Value)) : Item := cellI b (MapOk enc m)
def getM : List (κ × Value) → κ → Option Value
 | [], _ => none
 | (a, x) :: m, k => if k = a then some x else getM m k
def setM : List (κ × Value) → κ → Value → List (κ × Value)
 | [], k, v => [(k, v)]
 | (a, x) :: m, k, v => if k = a then (a, v) :: m else (a, x) :: setM m k v
structure KeyOk (P : Program) (T : TypeId) (enc : κ → Value) : Prop where
 und : ∃ d, P.underlying T = some d ∧ (∀ a b, Instr.sameNow d (enc a) (enc b) = some (decide (a = b))) ∧ (match d with | .interface _ | .array _ _ | .struct _ => false | _ => true) = true
 bits : ∀ a, Instr.sameBits 10000 (enc a) (enc a) = true
theorem keyInt {P : Program} {T : TypeId} {k : IntKind} (h : P.underlying T = some (.int k)) : KeyOk P T (Value.int k) := by
 refine ⟨⟨_, h, fun a b => ?_, rfl⟩, fun a => ?_⟩
 ·
  have : (a == b) = decide (a = b) := by by_cases h : a = b <;> simp [h]
  simp only [Instr.sameNow, if_true, this]
 ·
  show (k == k && a == a) = true
  simp
variable {P : Program}
theorem run_checkKey {T : TypeId} {enc : κ → Value} (hk : KeyOk P T enc) (e : Bool) (v : Value) (w : World) : (Instr.checkKey e 10000 T v).run P w = .ok () w := by
 obtain ⟨d, hd, _, h2⟩ := hk.und
 show (Instr.checkKey e (9999 + 1) T v).run P w = _
 rw [Instr.checkKey]
 simp only [Sem.run_bind, run_underlying hd, Result.andThen_ok]
 cases d <;> first | rfl | (cases h2)
theorem findNow_get {d : TypeDesc} {enc : κ → Value} (hd : ∀ a b, Instr.sameNow d (enc a) (enc b) = some (decide (a = b))) (k : κ) : ∀ (es : List MapEntry) (m : List (κ × Value)) (i : Nat), es.map (fun (e : MapEntry) => (e.key, e.val)) = m.map (fun p => (enc p.1, p.2)) →
    ∃ r, Instr.findNow d (enc k) es i = some r ∧ r.map (·.2) = getM m k ∧
      (∀ j v0, r = some (j, v0) → ∃ l, j = i + l ∧ ∃ (hl : l < es.length), es[l].key = enc k ∧ ∀ v, (es.modify l (fun e => { e with key := enc k, val := v })).map (fun (e : MapEntry) => (e.key, e.val)) = (setM m k v).map (fun p => (enc p.1, p.2))) ∧
      (r = none → ∀ v, (es ++ [(⟨enc k, v, 0⟩ : MapEntry)]).map (fun (e : MapEntry) => (e.key, e.val)) = (setM m k v).map (fun p => (enc p.1, p.2)))
  | [], m, i, h => by
    obtain rfl : m = [] := by simpa using h.symm
    exact ⟨none, rfl, rfl, (fun _ _ e => by cases e), fun _ v => rfl⟩
  | e :: es, m, i, h => by
    cases m with
    | nil => simp at h
    | cons p m =>
      obtain ⟨a, x⟩ := p
      simp only [List.map_cons, List.cons.injEq, Prod.mk.injEq] at h
      obtain ⟨⟨h1, h2⟩, h3⟩ := h
      by_cases hka : k = a
      · subst hka
        refine ⟨some (i, e.val), by simp [Instr.findNow, h1, hd], by simp [getM, h2], ?_, fun e => by cases e⟩
        intro j v0 hj
        simp only [Option.some.injEq, Prod.mk.injEq] at hj
        refine ⟨0, by omega, by simp, h1, fun v => ?_⟩
        simp [setM, h3]
      · obtain ⟨r, hr1, hr2, hr3, hr4⟩ := findNow_get hd k es m (i + 1) h3
        refine ⟨r, by simp [Instr.findNow, h1, hd, hka, hr1], by simp [getM, hka, hr2], ?_, ?_⟩
        · intro j v0 hj
          obtain ⟨l, rfl, hl, hk, hv⟩ := hr3 j v0 hj
          refine ⟨l + 1, by omega, by simp; omega, by simpa using hk, fun v => ?_⟩
          have := hv v
          simp only [List.modify_succ_cons, List.map_cons, setM, hka, if_false, h1, h2]
          rw [this]
        · intro hn v
          have := hr4 hn v
          simp only [List.cons_append, List.map_cons, setM, hka, if_false, h1, h2]
          rw [this]
theorem run_lookup {w : World} {T K E : TypeId} {b : Nat} {enc : κ → Value} {m : List (κ × Value)} {k : κ} {z : Value} {ok : Bool} (hT : ∀ w, (underlying T).run P w = .ok (.map K E) w) (hk : KeyOk P K enc) (hz : ∀ w, (zeroValue E).run P w = .ok z w)
    (hb : ∃ o, w.heap[b]? = some o ∧ MapOk enc m o) : (Instr.lookup T (.map (some b)) (enc k) ok).run P w = .ok (if ok then .tuple #[(getM m k).getD z, .bool (getM m k).isSome] else (getM m k).getD z) w := by
  obtain ⟨o, hb, es, c, rfl, hm⟩ := hb
  obtain ⟨d, hd, hs, h2⟩ := hk.und
  obtain ⟨r, hr, hg, _⟩ := findNow_get hs k es.toList m 0 hm
  have hget : (getObj b).run P w = .ok (.map es c) w := by simp [getObj, Sem.run, hb]
  rw [← hg]
  simp only [Instr.lookup, Sem.run_bind, hT, Result.andThen_ok, hget, Sem.run_pure, run_checkKey hk, Instr.findKey, run_underlying hd, hr]
  cases r with
  | none => simp [hz]
  | some p => simp
theorem run_mapUpdate {w : World} {T K E : TypeId} {b : Nat} {enc : κ → Value} {m : List (κ × Value)} {k : κ} {v : Value} (hT : ∀ w, (underlying T).run P w = .ok (.map K E) w) (hk : KeyOk P K enc)
    (hb : ∃ o, w.heap[b]? = some o ∧ MapOk enc m o) : ∃ o' w', (Instr.mapUpdate T (.map (some b)) (enc k) v).run P w = .ok () w' ∧ Put b o' w w' ∧ MapOk enc (setM m k v) o' := by
  obtain ⟨o, hb, es, c, rfl, hm⟩ := hb
  obtain ⟨d, hd, hs, h2⟩ := hk.und
  obtain ⟨r, hr, _, hsome, hnone⟩ := findNow_get hs k es.toList m 0 hm
  have hget : (getObj b).run P w = .ok (.map es c) w := by simp [getObj, Sem.run, hb]
  have hlt : b < w.heap.size := lt_of_heap hb
  have hset : ∀ o', (setObj b o').run P w = .ok () { w with heap := w.heap.setIfInBounds b o' } := fun o' => by simp [setObj, Sem.run, hb]
  have hput : ∀ o', Put b o' w { w with heap := w.heap.setIfInBounds b o' } := fun o' => by
    refine ⟨rfl, rfl, rfl, by simp, by simp [hlt], fun j _ hj => ?_⟩
    show (w.heap.setIfInBounds b o')[j]? = _
    rw [Array.getElem?_setIfInBounds, if_neg (fun e => hj e.symm)]
  cases r with
  | none =>
    refine ⟨.map (es.push ⟨enc k, v, c⟩) (c + 1), _, ?_, hput _, _, _, rfl, ?_⟩
    · simp only [Instr.mapUpdate, Sem.run_bind, hT, Result.andThen_ok, hget, run_checkKey hk, Instr.findKey, run_underlying hd, hr, Sem.run_pure, hset]
    · have := hnone rfl v
      simpa using this
  | some p =>
    obtain ⟨j, v0⟩ := p
    obtain ⟨l, hj, hl, hkey, hv⟩ := hsome j v0 rfl
    rw [Nat.zero_add] at hj
    subst hj
    have hl' : j < es.size := by simpa using hl
    have hstay : ∀ w, (Instr.keyThatStays (((es[j]?).map (·.key)).getD (enc k)) (enc k)).run P w = .ok (enc k) w := fun w => by
      have : es[j].key = enc k := by simpa using hkey
      simp [Instr.keyThatStays, hl', this, hk.bits]
    refine ⟨.map (es.modify j fun e => { e with key := enc k, val := v }) c, _, ?_, hput _, _, _, rfl, ?_⟩
    · simp only [Instr.mapUpdate, Sem.run_bind, hT, Result.andThen_ok, hget, run_checkKey hk, Instr.findKey, run_underlying hd, hr, Sem.run_pure, hstay, hset]
    · have := hv v
      simpa [Array.toList_modify] using this
end
section
variable {P : Program} {ops : Array Oper} {Q : Exit → Act → World → Prop} {n : Nat} {f : Fr} {S : List Nat} {w0 w w' : World} {L L' : List Item} {rest : List Oper} {d : Nat} {ty : TypeId} {pos : String} {af : Array Edge}
variable {κ : Type} [DecidableEq κ]
omit [DecidableEq κ] in
theorem smkmap {T : TypeId} (enc : κ → Value) (hS : StX S w0 w L) (h : ∀ b w', StX S w0 w' (mapI b enc [] :: L) → wpL P ops Q n rest (upd f d (.map (some b))) w') : wpL P ops Q n (⟨some d, .makeMap T none, ty, pos, af, none⟩ :: rest) f w := by
 refine sv (v := .map (some w.heap.size)) (w' := w.alloc (.map #[] 0)) ?_ (h w.heap.size _ (hS.call1 ⟨(ext_alloc w _).extX, ?_, ?_, ?_⟩))
 ·
  simp [Y, xop, execOp, Instr.makeMap]
 ·
  intro it hit
  obtain rfl : it = _ := by simpa using hit
  exact ⟨_, heap_alloc_new w _, #[], 0, rfl, rfl⟩
 ·
  intro b hb
  obtain rfl : b = _ := by simpa [fps, cellI] using hb
  exact .inl (Nat.le_refl _)
 ·
  simp [fps, cellI]
theorem smapset (enc : κ → Value) {T K E : TypeId} {xm xk xv : Operand} {b : Nat} {m : List (κ × Value)} {k : κ} {v : Value} (hS : StX S w0 w L) (hm : ev n f xm = .map (some b)) (hx : ev n f xk = enc k) (hv : ev n f xv = v) (hT : ∀ w, (underlying T).run P w = .ok (.map K E) w)
    (hk : KeyOk P K enc) [i : AtB L b (MapOk enc m)] [j : SetB L b (MapOk enc (setM m k v)) L'] (h : ∀ w', StX S w0 w' L' → wpL P ops Q n rest f w') : wpL P ops Q n (⟨none, .mapUpdate T xm xk xv, ty, pos, af, none⟩ :: rest) f w := by
  obtain ⟨o', w', hr, hp, ho⟩ := run_mapUpdate (k := k) (v := v) hT hk (hS.is b)
  refine wpL_skip (w' := w') ?_ (h w' (hS.puts hp ho))
  simp [xop, execOp, hm, hx, hv, hr]
theorem yLookOk (enc : κ → Value) {ρ : Operand → Value} {T K E : TypeId} {xm xk : Operand} {b : Nat} {m : List (κ × Value)} {k : κ} {z v : Value} (hm : ρ xm = .map (some b)) (hx : ρ xk = enc k) (hT : ∀ w, (underlying T).run P w = .ok (.map K E) w) (hk : KeyOk P K enc)
    (hz : ∀ w, (zeroValue E).run P w = .ok z w) (hb : ∃ o, w.heap[b]? = some o ∧ MapOk enc m o) (hv : (getM m k).getD z = v) : Y P ρ (.lookup T xm xk true) ty w (.tuple #[v, .bool (getM m k).isSome]) w := by
  subst hv
  simp [Y, xop, execOp, hm, hx, run_lookup (ok := true) hT hk hz hb]
theorem sbslice {T E : TypeId} {len sz : Nat} {ps : List (Nat × Operand)} {z : Value} {r : List Value} {vs : List (Nat × List Value)} (hS : StX S w0 w L) (hT : P.underlying T = some (.slice E)) (hs : ∀ w, (Go.sizeOf E).run P w = .ok sz w) (hbig : Nat.ble (len * sz) 16777216 = true)
    (hz : ∀ w, (zeroValue E).run P w = .ok z w) (hpos : Nat.beq (len * sz) 0 = false) (hv : PartsAre (ev n f) ps vs) (hf : fillL (fun i => some (i * sz, sz)) ((List.range (len * sz)).map (fun i => z.cells[i % z.cells.size]!)) vs = some r)
    (h : ∀ b w', StX S w0 w' (blk b r E :: L) → wpL P ops Q n rest (upd f d (.slice (some ⟨b, 0, none⟩) len len)) w') : wpL P ops Q n (⟨some d, .buildSlice T len ps.toArray, ty, pos, af, none⟩ :: rest) f w := by
  refine sv (v := .slice (some ⟨w.heap.size, 0, none⟩) len len) (w' := w.alloc (.cells r.toArray E (0, 0))) ?_ (h w.heap.size _ (hS.call1 (St.new w _)))
  have hb : ¬ (2 ^ 24 < len * sz) := by rw [Nat.ble_eq] at hbig; omega
  have hp : len * sz ≠ 0 := fun e => by rw [e] at hpos; cases hpos
  have hfl := fill_eq (fun i => some (i * sz, sz)) ((ps.toArray.map fun (i, x) => (i, ev n f x)).toList) ((Array.range (len * sz)).map (fun i => z.cells[i % z.cells.size]!)) r (by
    rw [map_parts, hv, Array.toList_map, Array.toList_range]; exact hf)
  simp only [Y, xop, execOp, Instr.buildSlice, Sem.run_bind, run_underlying hT, Result.andThen_ok, hs, Sem.run_ite, gt_iff_lt, hb, hp, if_false, hz, Sem.run_pure, hfl]
  simp [newRow]
end
def rowI (v : Value) (E : TypeId) (k n : Nat) (xs : List Value) : Item where
 fp := v.ownBlock.toList
 ok := fun w => w.ownsRow 0 E k v n xs
 loc := fun w w' h hw => by
  refine ⟨hw.1, ?_⟩
  rcases hw.2 with h1 | ⟨g, cap, cur, rfl, h2, h3, r⟩
  ·
   exact .inl h1
  ·
   exact .inr ⟨g, cap, cur, rfl, h2, (h g (by simp [Value.ownBlock])).trans h3, r⟩
 here := fun w hw b hb => by
  rcases hw.2 with ⟨rfl, _⟩ | ⟨g, cap, cur, rfl, _, h3, _⟩
  ·
   simp [Value.ownBlock] at hb
  ·
   obtain rfl : b = g := by simpa [Value.ownBlock] using hb
   exact lt_of_heap h3
class AtR (L : List Item) (v : Value) (E : outParam TypeId) (k n : outParam Nat) (xs : outParam (List Value)) : Prop where
 get : ∀ {w}, (∀ it ∈ L, it.ok w) → w.ownsRow 0 E k v n xs
instance (priority := high) atrHere (v : Value) (E : TypeId) (k n : Nat) (xs : List Value) (L : List Item) : AtR (rowI v E k n xs :: L) v E k n xs := ⟨fun h => h _ (List.mem_cons_self ..)⟩
instance (priority := low) atrThere (it : Item) (L : List Item) (v : Value) (E : TypeId) (k n : Nat) (xs : List Value) [i : AtR L v E k n xs] : AtR (it :: L) v E k n xs := ⟨fun h => i.get fun x hx => h x (List.mem_cons_of_mem _ hx)⟩
/-- Lf it is L with it in the place of the row of v. -/
class SetR (L : List Item) (v : Value) (Lf : outParam (Item → List Item)) : Prop where
 mem : ∀ b, v.ownBlock = some b → b ∈ fps L
 own : ∀ {it : Item} {pr : Nat → Prop} {w w' : World}, (∀ k, k < w.heap.size → some k ≠ v.ownBlock → w'.heap[k]? = w.heap[k]?) → it.ok w' → (it.fp = v.ownBlock.toList ∨ it.fp = [w.heap.size] ∨ it.fp = []) → pr w.heap.size →
  (∀ x ∈ L, x.ok w) → (∀ b ∈ fps L, pr b) → (fps L).Nodup → (∀ x ∈ Lf it, x.ok w') ∧ (∀ b ∈ fps (Lf it), pr b) ∧ (fps (Lf it)).Nodup ∧ (∀ b ∈ fps (Lf it), b ∈ fps L ∨ b ∈ it.fp)
instance (priority := high) setrHere (v : Value) (E : TypeId) (k n : Nat) (xs : List Value) (L : List Item) : SetR (rowI v E k n xs :: L) v (fun it => it :: L) where
 mem := fun b hb => by
  show b ∈ v.ownBlock.toList ++ fps L
  rw [hb]; simp
 own := by
  intro it pr w w' hk hit hfp h0 hok hown hn
  have hn' : (v.ownBlock.toList ++ fps L).Nodup := hn
  obtain ⟨hn1, hn2, hn3⟩ := List.nodup_append.1 hn'
  have hlt : ∀ b ∈ fps L, b < w.heap.size := fun b hb => by
   simp only [fps, List.mem_flatMap] at hb
   obtain ⟨y, hy, hb⟩ := hb
   exact y.here w (hok y (List.mem_cons_of_mem _ hy)) b hb
  refine ⟨?_, ?_, ?_, ?_⟩
  ·
   intro x hx
   rcases List.mem_cons.1 hx with rfl | hx
   ·
    exact hit
   ·
    refine x.loc w w' (fun c hc => hk c (x.here w (hok x (List.mem_cons_of_mem _ hx)) c hc) ?_) (hok x (List.mem_cons_of_mem _ hx))
    intro e
    exact hn3 c (by rw [← e]; simp) c (by simp only [fps, List.mem_flatMap]; exact ⟨x, hx, hc⟩) rfl
  ·
   intro b hb
   rcases List.mem_append.1 (show b ∈ it.fp ++ fps L from hb) with hb | hb
   ·
    rcases hfp with e | e | e
    ·
     rw [e] at hb
     exact hown b (List.mem_append_left _ hb)
    ·
     rw [e] at hb
     obtain rfl : b = _ := by simpa using hb
     exact h0
    ·
     rw [e] at hb; cases hb
   ·
    exact hown b (List.mem_append_right _ hb)
  ·
   show (it.fp ++ fps L).Nodup
   rcases hfp with e | e | e
   ·
    rw [e]; exact hn'
   ·
    rw [e]
    refine List.nodup_append.2 ⟨by simp, hn2, ?_⟩
    intro a ha b hb e
    subst e
    obtain rfl : a = _ := by simpa using ha
    exact absurd (hlt _ hb) (Nat.lt_irrefl _)
   ·
    rw [e]; exact hn2
  ·
   intro b hb
   rcases List.mem_append.1 (show b ∈ it.fp ++ fps L from hb) with hb | hb
   ·
    exact .inr hb
   ·
    exact .inl (List.mem_append_right _ hb)
instance (priority := low) setrThere (it0 : Item) (L : List Item) (v : Value) (Lf : Item → List Item) [i : SetR L v Lf] : SetR (it0 :: L) v (fun it => it0 :: Lf it) where
 mem := fun b hb => List.mem_append_right it0.fp (i.mem b hb)
 own := by
  intro it pr w w' hk hit hfp h0 hok hown hn
  have hn' : (it0.fp ++ fps L).Nodup := hn
  obtain ⟨hn1, hn2, hn3⟩ := List.nodup_append.1 hn'
  obtain ⟨r1, r2, r3, r4⟩ := i.own hk hit hfp h0 (fun x hx => hok x (List.mem_cons_of_mem _ hx)) (fun b hb => hown b (List.mem_append_right _ hb)) hn2
  have hsub : ∀ b ∈ fps (Lf it), b ∈ fps L ∨ b = w.heap.size := by
   intro b hb
   rcases r4 b hb with h | h
   ·
    exact .inl h
   ·
    rcases hfp with e | e | e
    ·
     rw [e] at h
     exact .inl (i.mem b (by simpa using h))
    ·
     rw [e] at h
     exact .inr (by simpa using h)
    ·
     rw [e] at h; cases h
  refine ⟨?_, ?_, ?_, ?_⟩
  ·
   intro x hx
   rcases List.mem_cons.1 hx with rfl | hx
   ·
    refine x.loc w w' (fun c hc => hk c (x.here w (hok x (List.mem_cons_self ..)) c hc) ?_) (hok x (List.mem_cons_self ..))
    intro e
    exact hn3 c hc c (i.mem c e.symm) rfl
   ·
    exact r1 x hx
  ·
   intro b hb
   rcases List.mem_append.1 (show b ∈ it0.fp ++ fps (Lf it) from hb) with hb | hb
   ·
    exact hown b (List.mem_append_left _ hb)
   ·
    exact r2 b hb
  ·
   show (it0.fp ++ fps (Lf it)).Nodup
   refine List.nodup_append.2 ⟨hn1, r3, ?_⟩
   intro a ha b hb e
   subst e
   rcases hsub a hb with h | h
   ·
    exact hn3 a ha a h rfl
   ·
    subst h
    exact absurd (it0.here w (hok it0 (List.mem_cons_self ..)) _ ha) (Nat.lt_irrefl _)
  ·
   intro b hb
   rcases List.mem_append.1 (show b ∈ it0.fp ++ fps (Lf it) from hb) with hb | hb
   ·
    exact .inl (List.mem_append_left _ hb)
   ·
    rcases r4 b hb with h | h
    ·
     exact .inl (List.mem_append_right _ h)
    ·
     exact .inr h
theorem StX.row {S : List Nat} {w0 w : World} {L : List Item} (h : StX S w0 w L) (v : Value) {E : TypeId} {k n : Nat} {xs : List Value} [i : AtR L v E k n xs] : w.ownsRow 0 E k v n xs := i.get h.ok
/-- A slice that is nil, ready to be appended to. -/
theorem StX.nilrow {S : List Nat} {w0 w : World} {L : List Item} (h : StX S w0 w L) (E : TypeId) (k : Nat) : StX S w0 w (rowI (.slice none 0 0) E k 0 [] :: L) := by
 refine ⟨h.extx, ?_, h.own, h.apart⟩
 intro it hit
 rcases List.mem_cons.1 hit with rfl | hi
 ·
  exact World.ownsRow_nil w 0 E k
 ·
  exact h.ok it hi
theorem fps_sub {M L : List Item} (h : M.Sublist L) : (fps M).Sublist (fps L) := by
 induction h with
 | slnil => exact List.Sublist.refl _
 | cons a h ih => exact ih.trans (List.sublist_append_right a.fp _)
 | cons_cons a h ih => exact List.Sublist.append (List.Sublist.refl a.fp) ih
/-- A part of what is owned. -/
theorem StX.sub {S : List Nat} {w0 w : World} {L M : List Item} (h : StX S w0 w L) (hs : M.Sublist L) : StX S w0 w M :=
 have hf : (fps M).Sublist (fps L) := fps_sub hs
 ⟨h.extx, fun it hit => h.ok it (hs.subset hit), fun b hb => h.own b (hf.subset hb), h.apart.sublist hf⟩
class In1 (L : List Item) (it : Item) : Prop where
 sub : [it].Sublist L
instance (priority := high) in1Here (it : Item) (L : List Item) : In1 (it :: L) it := ⟨List.Sublist.cons_cons _ (List.nil_sublist _)⟩
instance (priority := low) in1There (it it0 : Item) (L : List Item) [i : In1 L it] : In1 (it0 :: L) it := ⟨i.sub.cons _⟩
theorem StX.one {S : List Nat} {w0 w : World} {L : List Item} (h : StX S w0 w L) (it : Item) [i : In1 L it] : StX S w0 w [it] := h.sub i.sub
section
variable {P : Program} {S : List Nat} {w0 w : World} {L : List Item}
theorem run_app {t ty e : TypeId} {i : TypeInfo} {z : Value} {size bytes : Nat} (ht : P.underlying t = some (.slice e)) (hi : P.info? e = some i) (hz : i.zero = some z) (hsize : i.size = size) (hby : i.bytes = bytes) (hzs : z.cells.size = size) (hsz : 0 < size)
    {v : Value} {n : Nat} {xs : List Value} (hown : w.ownsRow 0 e size v n xs) {a : Addr} {m c : Nat} {news : List Value} (hl : news.length = m * size) (hnews : ∀ j u, news[j]? = some u → w.cell? (a.add j) = some u) (h1 : ∀ u ∈ news, u.oneCell' = true)
    (h63 : n + m ≤ maxLen) (hbytes : (n + m) * bytes ≤ 140737488355328) :
    ∃ v' w', (Builtin.append_ #[t, t] ty #[v, .slice (some a) m c]).run P w = .ok v' w' ∧ w'.ownsRow 0 e size v' (n + m) (xs ++ news) ∧ w.grownBy w' v.ownBlock ∧ (v'.ownBlock = v.ownBlock ∨ v'.ownBlock = some w.heap.size) ∧ (v' = .slice none 0 0 ↔ v = .slice none 0 0 ∧ m = 0) := by
  obtain ⟨v', w', hr, h2, h3, h4⟩ := run_append_own (P := P) w 0 t ty e i z size bytes ht hi hz hsize hby hzs hsz v n xs hown a m c news hl hnews h1 h63 hbytes (Nat.zero_le _)
  refine ⟨v', w', hr, h2, h3, ?_, h4⟩
  have h63' : ((n + m : Nat) : Int) ≤ 9223372036854775807 := by simp only [maxLen] at h63; omega
  subst hsize hby
  rcases hown.2 with ⟨rfl, rfl⟩ | ⟨g, cap, cur, rfl, hbg, hg, hnc, hcm, hcs, htake⟩
  · by_cases hm : m = 0
    · subst hm
      exact .inl (by rw [h4.2 ⟨rfl, rfl⟩])
    · have hr' := run_append_nil (P := P) w t ty e i z ht hi hz a m c news hl hnews (by omega) (by omega) (by have hb := hbytes; simp only [Nat.zero_add] at hb; omega)
      rw [hr'] at hr
      injection hr with e1 e2
      exact .inr (by rw [← e1]; rfl)
  · by_cases hroom : n + m ≤ cap
    · have hfit : n * i.size + news.length ≤ cur.size := by rw [hl, hcs, ← Nat.add_mul]; exact Nat.mul_le_mul_right _ hroom
      have hr' := run_append_room (P := P) w t ty e i ht hi g n cap cur hg a m c news hl hnews h1 hroom hfit
      rw [hr'] at hr
      injection hr with e1 e2
      exact .inl (by rw [← e1]; rfl)
    · have holds : ∀ j u, xs[j]? = some u → w.cell? ((⟨g, 0, none⟩ : Addr).add j) = some u := hown.cells (g := g) rfl
      have hr' := run_append_grow (P := P) w t ty e i z ht hi hz ⟨g, 0, none⟩ n cap xs hown.1 holds a m c news hl hnews (by omega) h63' (growslice_fits (by omega) hbytes)
      rw [hr'] at hr
      injection hr with e1 e2
      exact .inr (by rw [← e1]; rfl)
theorem StX.app {w' : World} {v v' : Value} {E : TypeId} {k n : Nat} {xs : List Value} {Lf : Item → List Item} (h : StX S w0 w L) [j : SetR L v Lf] (hr : w'.ownsRow 0 E k v' n xs) (hg : w.grownBy w' v.ownBlock) (hb : v'.ownBlock = v.ownBlock ∨ v'.ownBlock = some w.heap.size) :
    StX S w0 w' (Lf (rowI v' E k n xs)) := by
  obtain ⟨r1, r2, r3, _⟩ := j.own (it := rowI v' E k n xs) (pr := fun b => w0.heap.size ≤ b ∨ b ∈ S) hg.block hr (by
    rcases hb with e | e
    · exact .inl (by simp [rowI, e])
    · exact .inr (.inl (by simp [rowI, e]))) (.inl h.extx.size) h.ok h.own h.apart
  refine ⟨⟨hg.os.trans h.extx.os, hg.tape.trans h.extx.tape, hg.output.trans h.extx.output, Nat.le_trans h.extx.size hg.size, fun i hi hn => ?_⟩, r1, r2, r3⟩
  refine (hg.block i (Nat.lt_of_lt_of_le hi h.extx.size) ?_).trans (h.extx.block i hi hn)
  intro e
  rcases h.own i (j.mem i e.symm) with h1 | h1
  · omega
  · exact hn h1
end
section
variable {P : Program} {ops : Array Oper} {Q : Exit → Act → World → Prop} {n : Nat} {f : Fr} {S : List Nat} {w0 w w' : World} {L L' : List Item} {rest : List Oper} {d : Nat} {ty : TypeId} {pos : String} {af : Array Edge}
/-- append(s, x..), s a slice of the call's own. -/
theorem sapp {t e : TypeId} {i : TypeInfo} {z : Value} {size bytes : Nat} {xs' xx : Operand} {v : Value} {b o m c l : Nat} {xs news : List Value} {Lf : Item → List Item} (hS : StX S w0 w L) (hv : ev n f xs' = v) (hx : ev n f xx = .slice (some ⟨b, o, none⟩) m c)
    (ht : P.underlying t = some (.slice e)) (hi : P.info? e = some i) (hz : i.zero = some z) (hsize : i.size = size) (hby : i.bytes = bytes) (hzs : z.cells.size = size) (hsz : 0 < size)
    [r : AtR L v e size l xs] [j : SetR L v Lf] (hnews : Cells w b o news) (hl : news.length = m * size) (h1 : news.all (·.oneCell') = true) (h63 : l + m ≤ 9223372036854775807) (hbytes : (l + m) * bytes ≤ 140737488355328)
    (h : ∀ v' w', StX S w0 w' (Lf (rowI v' e size (l + m) (xs ++ news))) → wpL P ops Q n rest (upd f d v') w') : wpL P ops Q n (⟨some d, .call ⟨.builtin .append, #[xs', xx], #[t, t]⟩, ty, pos, af, none⟩ :: rest) f w := by
  obtain ⟨v', w', hr, h2, h3, h4, _⟩ := run_app (P := P) (ty := ty) (c := c) ht hi hz hsize hby hzs hsz (hS.row v) (a := ⟨b, o, none⟩) hl (fun j u hu => by rw [addr_add]; exact hnews j u hu) (fun u hu => List.all_eq_true.1 h1 u hu) (by simp only [maxLen]; omega) hbytes
  refine sv (v := v') (w' := w') ?_ (h v' w' (hS.app h2 h3 h4))
  simp [Y, xop, execOp, resolve, invoke, builtin, hv, hx, hr]
end
section
variable {P : Program} {ops : Array Oper} {Q : Exit → Act → World → Prop} {n : Nat}
def headOf (ops : Array Oper) (n : Nat) : Array Oper := (ops.toList.take n).toArray
theorem headOf_get {i : Nat} (h : i < n) : (headOf ops n)[i]? = ops[i]? := by
 simp [headOf, h]
/-- Edges and guards of the head lead back. -/
def backB (ops : Array Oper) (n : Nat) : Bool :=
 (List.range n).all fun i => match ops[i]? with
  | some o => (o.after.all fun e => !Region.binds .any e || decide (e.on < i)) && (match o.guard with | some (j, _) => decide (j < i) | none => true)
  | none => false
theorem backB_spec (h : backB ops n = true) {i : Nat} (hi : i < n) : ∃ o, ops[i]? = some o ∧ (∀ e ∈ o.after, Region.binds .any e = true → e.on < i) ∧ ∀ j b, o.guard = some (j, b) → j < i := by
 have h1 := List.all_eq_true.1 h i (List.mem_range.2 hi)
 cases ho : ops[i]? with
 | none => simp [ho] at h1
 | some o =>
  simp only [ho, Bool.and_eq_true, Array.all_eq_true_iff_forall_mem, Bool.or_eq_true, Bool.not_eq_true', decide_eq_true_eq] at h1
  refine ⟨o, rfl, fun e he hb => (h1.1 e he).resolve_left (by simp [hb]), fun j b hg => ?_⟩
  have h2 := h1.2
  rw [hg] at h2
  simpa using h2
theorem getD_app_lt {a b : Array Bool} {i : Nat} {d : Bool} (h : i < a.size) : (a ++ b).getD i d = a.getD i d := by
 simp only [Array.getD_eq_getD_getElem?, Array.getElem?_append, h, if_true]
theorem set_app {a b : Array Bool} {i : Nat} (h : i < a.size) : (a ++ b).setIfInBounds i true = a.setIfInBounds i true ++ b := by
 apply Array.ext_getElem?
 intro t
 simp only [Array.getElem?_setIfInBounds, Array.getElem?_append, Array.size_append, Array.size_setIfInBounds]
 by_cases e : i = t
 ·
  subst e; simp [h, show i < a.size + b.size by omega]
 ·
  simp [e]
theorem wpAny_seq {md : Region.Mode} : ∀ (l : List Oper) (k : Nat) (listed : Array Bool) (a : Act) (w : World) (x : Nat), (∀ j, l[j]? = ops[k + j]?) →
    Region.seqB md ops l.length k listed = true → wpList P ops Q l a w → wpAny P md ops Q (x + l.length) listed a w
  | [], k, listed, a, w, x, _, hB, h => by
    have h0 : Region.ready md ops listed = [] := by simpa [Region.seqB] using hB
    cases x with
    | zero => exact ⟨h0, h⟩
    | succ x => exact ⟨fun _ => h, fun i hi => by rw [h0] at hi; cases hi⟩
  | o :: l, k, listed, a, w, x, hl, hB, h => by
    have h0 : ops[k]? = some o := by simpa using (hl 0).symm
    simp only [List.length_cons, Region.seqB, Bool.and_eq_true, decide_eq_true_eq] at hB
    show wpAny P md ops Q ((x + l.length) + 1) listed a w
    refine ⟨fun h1 => (by rw [hB.1] at h1; cases h1), fun i hi => ?_⟩
    rw [hB.1] at hi
    have hik : i = k := by simpa using hi
    subst hik
    have hw : wpOp P ops Q i (wpList P ops Q l) a w := by unfold wpOp; simp only [h0]; exact h
    exact wpOp_mono (fun a' w' h' => wpAny_seq l (i + 1) _ a' w' x (fun j => by have := hl (j + 1); simpa [Nat.add_assoc, Nat.add_comm 1 j] using this) hB.2 h') hw
/-- The post of the head: behind it the tail. -/
def headPost (P : Program) (ops : Array Oper) (Q : Exit → Act → World → Prop) (n : Nat) : Exit → Act → World → Prop
 | .normal, a, w => wpList P ops Q (ops.toList.drop n) a w
 | e, a, w => Q e a w
theorem wpOp_head (hb : backB ops n = true) {i : Nat} (hi : i < n) {K K' : Act → World → Prop} {a : Act} {w : World} (hK : ∀ a w, K a w → K' a w)
    (h : wpOp P (headOf ops n) (headPost P ops Q n) i K a w) : wpOp P ops Q i K' a w := by
  obtain ⟨o, ho, _, hg⟩ := backB_spec hb hi
  have hh : (headOf ops n)[i]? = some o := (headOf_get hi).trans ho
  unfold wpOp at h ⊢
  simp only [ho, hh] at h ⊢
  have hw : Region.wanted o (yielded (headOf ops n) a.tmps) = Region.wanted o (yielded ops a.tmps) := by
    unfold Region.wanted
    cases hgd : o.guard with
    | none => rfl
    | some p =>
      obtain ⟨j, b⟩ := p
      have hj := hg j b hgd
      simp only [yielded, headOf_get (ops := ops) (n := n) (show j < n by omega)]
  rw [hw] at h
  split
  · rename_i hwd
    rw [if_pos hwd] at h
    rcases h with h | ⟨h1, h2⟩
    · left
      unfold Oper.wp at h ⊢
      generalize (execOp a.eval o).run P w = r at h ⊢
      cases r with
      | ok x w' =>
        cases x <;> simp only [Oper.upon] at h ⊢ <;> first
          | exact hK _ _ h
          | exact h
          | (refine Calls.mono h ?_
             intro e w'' he
             cases e <;> first | exact hK _ _ he | exact he)
          | exact h.mono fun v w'' hv => hK _ _ hv
      | halt x w' => cases x <;> exact h
    · exact .inr ⟨h1, h2⟩
  · rename_i hwd
    rw [if_neg hwd] at h
    exact hK _ _ h
theorem wpAny_head (hb : backB ops n = true) (hs : Region.sinkB .any ops n = true) (hc : Region.chainB .any ops n = true) (hn : n < ops.size)
    (hq : Region.seqB .any ops (ops.size - n) n (Array.replicate n true ++ Array.replicate (ops.size - n) false) = true) :
    ∀ (f : Nat) (lh : Array Bool) (a : Act) (w : World), lh.size = n → HeadInv .any ops n (lh ++ Array.replicate (ops.size - n) false) →
      wpAny P .any (headOf ops n) (headPost P ops Q n) f lh a w → wpAny P .any ops Q (f + (ops.size - n)) (lh ++ Array.replicate (ops.size - n) false) a w := by
  have hsz : (headOf ops n).size = n := by simp [headOf]; omega
  have all : ∀ lh : Array Bool, lh.size = n → Region.ready .any (headOf ops n) lh = [] → lh = Array.replicate n true := by
    intro lh hl hr
    have key : ∀ i, i < n → lh.getD i false = true := by
      intro i
      induction i using Nat.strongRecOn with
      | _ i ih =>
        intro hi
        cases hx : lh.getD i false with
        | true => rfl
        | false =>
          obtain ⟨o, ho, hedge, _⟩ := backB_spec hb hi
          have : i ∈ Region.ready .any (headOf ops n) lh := mem_ready.2 ⟨getD_in (by omega) hx, o, (headOf_get hi).trans ho, fun e he hbe => ih e.on (hedge e he hbe) (by have := hedge e he hbe; omega)⟩
          rw [hr] at this
          cases this
    apply Array.ext
    · simp [hl]
    · intro i h1 h2
      have := key i (by omega)
      simp [Array.getD, h1] at this
      simp [this]
  have tail : ∀ (lh : Array Bool) (a : Act) (w : World) (x : Nat), lh = Array.replicate n true → headPost P ops Q n .normal a w → wpAny P .any ops Q (x + (ops.size - n)) (lh ++ Array.replicate (ops.size - n) false) a w := by
    rintro lh a w x rfl h
    have := wpAny_seq (P := P) (Q := Q) (md := .any) (ops := ops) (ops.toList.drop n) n (Array.replicate n true ++ Array.replicate (ops.size - n) false) a w x (fun j => by simp) (by simpa using hq) h
    simpa using this
  intro f
  induction f with
  | zero => exact fun lh a w hl _ h => tail lh a w 0 (all lh hl h.1) h.2
  | succ f ih =>
    intro lh a w hl inv h
    by_cases hr : Region.ready .any (headOf ops n) lh = []
    · exact tail lh a w (f + 1) (all lh hl hr) (h.1 hr)
    · -- something of the head is not listed
      obtain ⟨i0, hi0⟩ := List.exists_mem_of_ne_nil _ hr
      obtain ⟨hu0, o0, ho0, he0⟩ := mem_ready.1 hi0
      have hi0n : i0 < n := by have := (Array.getElem?_eq_some_iff.1 ho0).1; omega
      have hun : (lh ++ Array.replicate (ops.size - n) false).getD i0 true = false := by rw [getD_app_lt (by omega)]; exact hu0
      have lift : ∀ i, i < n → (i ∈ Region.ready .any ops (lh ++ Array.replicate (ops.size - n) false) ↔ i ∈ Region.ready .any (headOf ops n) lh) := by
        intro i hi
        obtain ⟨o, ho, hedge, _⟩ := backB_spec hb hi
        rw [mem_ready, mem_ready, getD_app_lt (by omega), headOf_get hi]
        constructor
        · rintro ⟨h1, o', ho', h2⟩
          refine ⟨h1, o', ho', fun e he hbe => ?_⟩
          rw [ho] at ho'
          obtain rfl := Option.some.inj ho'
          have := h2 e he hbe
          rwa [getD_app_lt (by have := hedge e he hbe; omega)] at this
        · rintro ⟨h1, o', ho', h2⟩
          refine ⟨h1, o', ho', fun e he hbe => ?_⟩
          rw [ho] at ho'
          obtain rfl := Option.some.inj ho'
          rw [getD_app_lt (by have := hedge e he hbe; omega)]
          exact h2 e he hbe
      have : f + 1 + (ops.size - n) = (f + (ops.size - n)) + 1 := by omega
      rw [this]
      refine ⟨fun h0 => ?_, fun i hi => ?_⟩
      · have := (lift i0 hi0n).2 hi0
        rw [h0] at this
        cases this
      · have hin : i < n := by
          rcases Nat.lt_or_ge i n with h | h
          · exact h
          · exact absurd hi (tail_waits hs hc hn inv _ i0 rfl hi0n hun i h)
        have hset : (lh ++ Array.replicate (ops.size - n) false).setIfInBounds i true = lh.setIfInBounds i true ++ Array.replicate (ops.size - n) false := set_app (by omega)
        refine wpOp_head hb hin (fun a' w' h' => ?_) (h.2 i ((lift i hin).1 hi))
        rw [hset]
        exact ih _ a' w' (by simpa using hl) (hset ▸ inv.set hi hin) h'
def tailB (ops : Array Oper) (n : Nat) : Bool :=
 backB ops n && Region.sinkB .any ops n && Region.chainB .any ops n && decide (n < ops.size) && Region.seqB .any ops (ops.size - n) n (Array.replicate n true ++ Array.replicate (ops.size - n) false) && Region.lexB .any (headOf ops n)
theorem wp_region_tail {C : World → Prop} {id : Nat} {a : Act} {w : World} (hm : P.follows .mixedOrders = true) (n : Nat) (hB : tailB ops n = true) (hC : C { w with drawn := w.drawn + 1 })
    (h : wpQuiet P (headOf ops n) C (fun a' => ∀ w', C w' → wpList P ops Q (ops.toList.drop n) a' w') (ops.toList.take n) a) : (Code.region id ops true).wp P Q a w := by
  simp only [tailB, Bool.and_eq_true, decide_eq_true_eq] at hB
  obtain ⟨⟨⟨⟨⟨hb, hs⟩, hc⟩, hn⟩, hq⟩, hl⟩ := hB
  simp only [Region.lexB, Bool.and_eq_true] at hl
  refine wp_region_any hm ?_
  have h1 := wpAnyQ_lex (P := P) (C := C) (md := .any) hl.1 (ops.toList.take n) 0 (Array.replicate (headOf ops n).size false) a (by simp [headOf]) (by simpa [headOf] using hl.2) h
  have h2 := wpAny_of_quiet (P := P) (Q' := headPost P ops Q n) (fun a' w' hw' (h : ∀ w', C w' → wpList P ops Q (ops.toList.drop n) a' w') => h w' hw') _ _ a { w with drawn := w.drawn + 1 } hC h1
  have hsz : (headOf ops n).size = n := by simp [headOf]; omega
  have hlen : (ops.toList.take n).length = n := by simp; omega
  rw [hsz, hlen] at h2
  have e : Array.replicate n false ++ Array.replicate (ops.size - n) false = Array.replicate ops.size false := by
    rw [Array.replicate_append_replicate, show n + (ops.size - n) = ops.size by omega]
  have inv : HeadInv .any ops n (Array.replicate n false ++ Array.replicate (ops.size - n) false) := by
    rw [e]
    refine ⟨by simp, fun j oj _ hl => ?_, fun t _ h2 => by simp [h2]⟩
    rw [getD_replicate_false] at hl
    cases hl
  have h3 := wpAny_head (P := P) (Q := Q) hb hs hc hn hq n (Array.replicate n false) a { w with drawn := w.drawn + 1 } (by simp) inv h2
  rw [show n + (ops.size - n) = ops.size by omega, e] at h3
  exact h3
variable {f : Fr} {S : List Nat} {w0 w : World} {L : List Item} {nf : Nat}
theorem region_tail {id : Nat} {l : List Oper} (hm : P.follows .mixedOrders = true) (n : Nat) (hB : tailB l.toArray n = true) (hS : StX S w0 w L)
    (h : wpQ P (headOf l.toArray n) S w0 L (fun a => ∀ w', StX S w0 w' L → wpList P l.toArray Q (l.drop n) a w') nf (l.take n) f) : (Code.region id l.toArray true).wp P Q (mk nf f) w :=
  wp_region_tail (C := fun w => StX S w0 w L) hm n hB (hS.step (ext_drew w)) h
theorem qtl {ops' : Array Oper} {tl : List Oper} (h : ∀ w', StX S w0 w' L → wpL P ops Q nf tl f w') : wpQ P ops' S w0 L (fun a => ∀ w', StX S w0 w' L → wpList P ops Q tl a w') nf [] f := h
end
/-- The slice v reads as the list l; R w cs x: the k cells cs of an element read as x. -/
def Sl {α : Type} (w : World) (k : Nat) (R : World → List Value → α → Prop) (v : Value) (l : List α) : Prop :=
 ∃ a cap, v = .slice a l.length cap ∧ l.length ≤ cap ∧ cap ≤ 9223372036854775807 ∧ ∀ i (h : i < l.length), ∃ b o cs, a = some ⟨b, o, none⟩ ∧ cs.length = k ∧ Cells w b (o + i * k) cs ∧ R w cs l[i]
/-- A reading that stays while nothing old changes. -/
def Stays {α : Type} (R : World → List Value → α → Prop) : Prop := ∀ w w' cs x, Ext w w' → R w cs x → R w' cs x
theorem Sl.ext {α : Type} {w w' : World} {k : Nat} {R : World → List Value → α → Prop} {v : Value} {l : List α} (h : Sl w k R v l) (hR : Stays R) (e : Ext w w') : Sl w' k R v l := by
 obtain ⟨a, cap, hv, h1, h2, h3⟩ := h
 refine ⟨a, cap, hv, h1, h2, fun i hi => ?_⟩
 obtain ⟨b, o, cs, ha, hl, hc, hr⟩ := h3 i hi
 exact ⟨b, o, cs, ha, hl, hc.ext e, hR _ _ _ _ e hr⟩
theorem Sl.nil {α : Type} {w : World} {k : Nat} {R : World → List Value → α → Prop} : Sl w k R (.slice none 0 0) ([] : List α) := ⟨none, 0, rfl, Nat.le_refl _, by omega, fun i hi => absurd hi (Nat.not_lt_zero i)⟩
def RInt (_ : World) (cs : List Value) (n : Int) : Prop := cs = [.int .i64 n] ∧ I64 n
theorem RInt.stays : Stays RInt := fun _ _ _ _ _ h => h
section
variable {P : Program} {ρ : Operand → Value} {w : World} {ty : TypeId}
theorem yIxa {x i : Operand} {T e : TypeId} {a : Option Addr} {b o len cap k : Nat} {kd : IntKind} {m : Int} (hx : ρ x = .slice a len cap) (ha : a = some ⟨b, o, none⟩) (hi : ρ i = .int kd m) (hu : ∀ w, (underlying T).run P w = .ok (.slice e) w)
    (hs : ∀ w, (Go.sizeOf e).run P w = .ok k w) (h0 : 0 ≤ m) (h1 : m < len) : Y P ρ (.indexAddr T x i) ty w (.pointer (some ⟨b, o + m.toNat * k, none⟩)) w := by
  subst ha
  exact yIx hx hi hu hs h0 h1
end
theorem Cells.at {w : World} {b o : Nat} {vs : List Value} (h : Cells w b o vs) {j : Nat} {v : Value} (hv : vs[j]? = some v) : w.cell? ⟨b, o + j, none⟩ = some v := h j v hv
theorem Cells.one {w : World} {b o : Nat} {v : Value} {vs : List Value} (h : Cells w b o (v :: vs)) : w.cell? ⟨b, o, none⟩ = some v := h 0 v rfl
/-- The cells of the i-th part of a block of equal parts. -/
theorem flat_get {α : Type} {enc : α → List Value} {k : Nat} (hk : ∀ x, (enc x).length = k) : ∀ (l : List α) (i j : Nat) (x : α), l[i]? = some x → j < k → (l.flatMap enc)[i * k + j]? = (enc x)[j]?
  | [], i, j, x, h, _ => by simp at h
  | y :: l, 0, j, x, h, hj => by
    obtain rfl : y = x := by simpa using h
    rw [List.flatMap_cons, List.getElem?_append_left (by rw [hk]; omega), Nat.zero_mul, Nat.zero_add]
  | y :: l, i + 1, j, x, h, hj => by
    rw [List.flatMap_cons, List.getElem?_append_right (by rw [hk]; rw [Nat.succ_mul]; omega), hk, show (i + 1) * k + j - k = i * k + j by rw [Nat.succ_mul]; omega]
    exact flat_get hk l i j x (by simpa using h) hj
theorem flat_cells {α : Type} {enc : α → List Value} {k : Nat} (hk : ∀ x, (enc x).length = k) {w : World} {b o : Nat} {l : List α} (h : Cells w b o (l.flatMap enc)) {i : Nat} {x : α} (hi : l[i]? = some x) : Cells w b (o + i * k) (enc x) := by
 intro j v hv
 have hj : j < k := by
  have := (List.getElem?_eq_some_iff.1 hv).1
  rwa [hk] at this
 rw [Nat.add_assoc]
 exact h _ v (by rw [flat_get hk l i j x hi hj]; exact hv)
theorem flat_cells0 {α : Type} {enc : α → List Value} {k : Nat} (hk : ∀ x, (enc x).length = k) {w : World} {b : Nat} {l : List α} (h : Cells w b 0 (l.flatMap enc)) {i : Nat} {x : α} (hi : l[i]? = some x) : Cells w b (i * k) (enc x) := by
 have := flat_cells hk h hi
 rwa [Nat.zero_add] at this
theorem blk_cells {w : World} {b : Nat} {cs : List Value} {t : TypeId} {fr : Nat × Nat} (h : w.heap[b]? = some (.cells cs.toArray t fr)) : Cells w b 0 cs := fun j v hv => by
 rw [Nat.zero_add]
 exact cell_of h hv
/-- A slice of the call's own, of elements that are written out cell by cell, reads as its list. -/
theorem row_sl {α : Type} {enc : α → List Value} {ok : α → Prop} {k : Nat} (hk : ∀ x, (enc x).length = k) {w : World} {e : TypeId} {v : Value} {l : List α} (h : w.ownsRow 0 e k v l.length (l.flatMap enc)) (hok : ∀ x ∈ l, ok x) : Sl w k (fun _ cs x => cs = enc x ∧ ok x) v l := by
 rcases h.2 with ⟨rfl, h0⟩ | ⟨g, cap, cur, rfl, _, hg, hn, hm, hc, ht⟩
 ·
  obtain rfl : l = [] := List.eq_nil_of_length_eq_zero h0
  exact Sl.nil
 ·
  refine ⟨_, cap, rfl, hn, by simp only [maxLen] at hm; omega, fun i hi => ⟨g, 0, enc l[i], rfl, hk _, ?_, rfl, hok _ (List.getElem_mem hi)⟩⟩
  refine flat_cells hk (l := l) ?_ (List.getElem?_eq_getElem hi)
  intro j u hu
  rw [Nat.zero_add, World.cell?, hg]
  have hj : j < l.length * k := by
   have := (List.getElem?_eq_some_iff.1 hu).1
   rwa [h.1] at this
  rw [← ht, List.getElem?_take, if_pos hj] at hu
  simpa using hu
theorem eqI {p q : Int} (h : p = q) : Value.int .i64 q = .int .i64 p := by rw [h]
theorem eqB {p q : Bool} (h : p = q) : Value.bool q = .bool p := by rw [h]
structure Rule where
 g : Nat
 caps : List Value
 e : Int
 B : Bool
def rcells (r : Rule) : List Value := [.func (.func r.g) #[] r.caps.toArray, .int .i64 r.e]
theorem rcells_len (r : Rule) : (rcells r).length = 2 := rfl
def firstE : List Rule → Int
 | [] => 0
 | r :: rs => if r.B then r.e else firstE rs
def RulesOk (P : Program) (w0 : World) : List Rule → Prop
 | [] => True
 | r :: rs => (∀ ys w, (callFunc r.g ys).run P w = .ok (.enter r.g ys) w) ∧ (∀ w, Ext w0 w → CV P r.g r.caps.toArray w (.bool r.B)) ∧ (r.B = false → RulesOk P w0 rs)
theorem drop_of {α : Type} {l : List α} {k : Nat} (h : k < l.length) : ∃ x, l[k]? = some x ∧ l.drop k = x :: l.drop (k + 1) := ⟨l[k], List.getElem?_eq_getElem h, List.drop_eq_getElem_cons h⟩
section
variable {P : Program} {ops : Array Oper} {Q : Exit → Act → World → Prop} {md : Region.Mode} {C : World → Prop} {m : Nat}
/-- Whatever order is picked from here on; behind each operation before m the world is of the class. -/
def wpAC (P : Program) (md : Region.Mode) (ops : Array Oper) (Q : Exit → Act → World → Prop) (C : World → Prop) (m : Nat) : Nat → Array Bool → Act → World → Prop
  | 0, listed, a, w => Region.ready md ops listed = [] ∧ Q .normal a w
  | fuel + 1, listed, a, w => (Region.ready md ops listed = [] → Q .normal a w) ∧
      ∀ i ∈ Region.ready md ops listed, wpOp P ops Q i (fun a' w' => (i < m → C w') ∧ wpAC P md ops Q C m fuel (listed.setIfInBounds i true) a' w') a w
theorem wpAny_of_AC : ∀ (fuel : Nat) (listed : Array Bool) (a : Act) (w : World), wpAC P md ops Q C m fuel listed a w → wpAny P md ops Q fuel listed a w
 | 0, _, _, _, h => h
 | fuel + 1, _, _, _, h => ⟨h.1, fun i hi => wpOp_mono (fun a' w' h' => wpAny_of_AC fuel _ a' w' h'.2) (h.2 i hi)⟩
/-- In state a, in each world of the class, the operation leaves v and the world as it is. -/
def Free (P : Program) (ops : Array Oper) (C : World → Prop) (o : Oper) (v : Value) (a : Act) : Prop :=
 (Region.wanted o (yielded ops a.tmps) = true ∧ ∀ w, C w → (execOp a.eval o).run P w = .ok (.value v) w) ∨ (Region.wanted o (yielded ops a.tmps) = false ∧ v = undef)
theorem Free.op {i : Nat} {o : Oper} {v : Value} {a : Act} {w : World} {K : Act → World → Prop} (hi : ops[i]? = some o) (hf : Free P ops C o v a) (hC : C w) (h : K (a.put o.dst v) w) : wpOp P ops Q i K a w := by
 unfold wpOp
 simp only [hi]
 rcases hf with ⟨hw, hv⟩ | ⟨hw, rfl⟩
 ·
  rw [if_pos hw]
  left
  unfold Oper.wp
  rw [hv w hC]
  exact h
 ·
  rw [if_neg (by rw [hw]; decide)]
  exact h
/-- An operation that looks at none of it may go before a value is put. -/
theorem wpOp_put {j : Nat} {oi oj : Oper} {v : Value} (hj : ops[j]? = some oj) (hap : oi.apart ops oj = true) (hsj : ∀ cs b, oj.op ≠ .select cs b) (hQ : ∀ c a a' w, Q (.panic c) a w → Q (.panic c) a' w)
    {K : Act → World → Prop} {a : Act} {w : World} (h : wpOp P ops Q j K (a.put oi.dst v) w) : wpOp P ops Q j (fun a' w' => K (a'.put oi.dst v) w') a w := by
  obtain ⟨h1, h2, _⟩ := Oper.apart_spec hap
  have hx := execOp_put oj hsj a oi.dst v h1
  unfold wpOp at h ⊢
  simp only [hj] at h ⊢
  rw [wanted_put oj a oi.dst v h1] at h
  have hd : ∀ ds : List Deferred, ({ a.put oi.dst v with defers := ds } : Act) = ({ a with defers := ds } : Act).put oi.dst v := fun ds => by cases oi.dst <;> rfl
  have hdf : (a.put oi.dst v).defers = a.defers := by cases oi.dst <;> rfl
  split
  · rename_i hw
    rw [if_pos hw] at h
    rcases h with h | ⟨ha, hl⟩
    · left
      unfold Oper.wp at h ⊢
      rw [hx] at h
      generalize (execOp a.eval oj).run P w = r at h ⊢
      cases r with
      | ok x w' =>
        cases x <;> simp only [Oper.upon] at h ⊢
        case value u => rw [← Act.put_comm a v u h2]; exact h
        case skip => rw [← Act.put_comm a v undef h2]; exact h
        case defer d =>
          rw [hdf, hd] at h
          rw [← Act.put_comm _ v undef h2]
          exact h
        case enter g args =>
          refine Calls.mono h ?_
          intro e w'' he
          cases e with
          | returned u =>
            have he' : K ((a.put oi.dst v).put oj.dst u) w'' := he
            show K ((a.put oj.dst u).put oi.dst v) w''
            rw [← Act.put_comm a v u h2]; exact he'
          | panicked c => exact hQ _ _ _ _ he
          | outgrown => exact he
        case row row args =>
          refine h.mono fun u w'' he => ?_
          have he' : K ((a.put oi.dst v).put oj.dst u) w'' := he
          show K ((a.put oj.dst u).put oi.dst v) w''
          rw [← Act.put_comm a v u h2]; exact he'
      | halt x w' => cases x <;> first | exact hQ _ _ _ _ h | exact h
    · refine .inr ⟨?_, hl⟩
      unfold Oper.asks at ha ⊢
      rwa [hx] at ha
  · rename_i hw
    rw [if_neg hw] at h
    rw [← Act.put_comm a v undef h2]; exact h
/-- The frame behind an operation keeps what it did not write. -/
theorem wpOp_frame {j : Nat} {oj : Oper} (hj : ops[j]? = some oj) {K : Act → World → Prop} {a : Act} {w : World} (h : wpOp P ops Q j K a w) :
    wpOp P ops Q j (fun a' w' => (∃ u ds, a' = ({ a with defers := ds } : Act).put oj.dst u) ∧ K a' w') a w := by
  unfold wpOp at h ⊢
  simp only [hj] at h ⊢
  split
  · rename_i hw
    rw [if_pos hw] at h
    rcases h with h | h
    · left
      unfold Oper.wp at h ⊢
      generalize (execOp a.eval oj).run P w = r at h ⊢
      cases r with
      | ok x w' =>
        cases x <;> simp only [Oper.upon] at h ⊢
        case value u => exact ⟨⟨u, a.defers, rfl⟩, h⟩
        case skip => exact ⟨⟨undef, a.defers, rfl⟩, h⟩
        case defer d => exact ⟨⟨undef, _, rfl⟩, h⟩
        case enter g args =>
          refine Calls.mono h ?_
          intro e w'' he
          cases e with
          | returned u => exact ⟨⟨u, a.defers, rfl⟩, he⟩
          | panicked c => exact he
          | outgrown => exact he
        case row row args => exact h.mono fun u w'' he => ⟨⟨u, a.defers, rfl⟩, he⟩
      | halt x w' => cases x <;> exact h
    · exact .inr h
  · rename_i hw
    rw [if_neg hw] at h
    exact ⟨⟨undef, a.defers, rfl⟩, h⟩
theorem Free.keep {o oj : Oper} {v u : Value} {a : Act} {ds : List Deferred} (hap : o.apart ops oj = true) (hso : ∀ cs b, o.op ≠ .select cs b) (hf : Free P ops C o v a) : Free P ops C o v (({ a with defers := ds } : Act).put oj.dst u) := by
 obtain ⟨_, _, h3⟩ := Oper.apart_spec hap
 have e1 := execOp_put o hso ({ a with defers := ds } : Act) oj.dst u h3
 have e2 := wanted_put (ops := ops) o ({ a with defers := ds } : Act) oj.dst u h3
 unfold Free at hf ⊢
 rw [e1, e2]
 exact hf
theorem wpAC_first {i : Nat} {oi : Oper} {v : Value} (hi : ops[i]? = some oi) (hsel : ∀ (j : Nat) (o : Oper) cs b, ops[j]? = some o → o.op ≠ .select cs b) (hQ : ∀ c a a' w, Q (.panic c) a w → Q (.panic c) a' w)
    (late : ∀ j oj, ops[j]? = some oj → m ≤ j → ∃ e ∈ oj.after, Region.binds md e = true ∧ e.on = i) :
    ∀ (fuel : Nat) (listed : Array Bool) (a : Act) (w : World), C w →
      (∀ j oj, ops[j]? = some oj → j ≠ i → listed.getD j true = false → (∀ e ∈ oj.after, Region.binds md e = true → e.on ≠ i) → oi.apart ops oj = true) →
      i ∈ Region.ready md ops listed → Free P ops C oi v a →
      wpAC P md ops Q C m fuel (listed.setIfInBounds i true) (a.put oi.dst v) w → wpAC P md ops Q C m (fuel + 1) listed a w := by
  intro fuel
  induction fuel with
  | zero =>
    intro listed a w hC hfree hr hf H
    refine ⟨fun h => (by rw [h] at hr; cases hr), fun j hj => ?_⟩
    by_cases hji : j = i
    · subst hji; exact hf.op hi hC ⟨fun _ => hC, H⟩
    · have := ready_mono hj hji
      rw [H.1] at this
      cases this
  | succ fuel ih =>
    intro listed a w hC hfree hr hf H
    refine ⟨fun h => (by rw [h] at hr; cases hr), fun j hj => ?_⟩
    by_cases hji : j = i
    · subst hji; exact hf.op hi hC ⟨fun _ => hC, H⟩
    · have h1 := H.2 j (ready_mono hj hji)
      obtain ⟨hjun, oj, hoj, hall⟩ := mem_ready.1 hj
      have hun := (mem_ready.1 hr).1
      have hifalse : listed.getD i false = false := by
        rcases Nat.lt_or_ge i listed.size with h' | h'
        · simp [h'] at hun ⊢; exact hun
        · simp [Array.getElem?_eq_none h'] at hun
      have hnot : ∀ e ∈ oj.after, Region.binds md e = true → e.on ≠ i := fun e he hb heq => by
        have h0 := hall e he hb
        rw [heq, hifalse] at h0
        cases h0
      have hjm : j < m := by
        rcases Nat.lt_or_ge j m with h | h
        · exact h
        · obtain ⟨e, he, hb, hon⟩ := late j oj hoj h
          exact absurd hon (hnot e he hb)
      have hap := hfree j oj hoj hji hjun hnot
      have hfree' : ∀ k ok, ops[k]? = some ok → k ≠ i → (listed.setIfInBounds j true).getD k true = false →
          (∀ e ∈ ok.after, Region.binds md e = true → e.on ≠ i) → oi.apart ops ok = true := fun k ok hk hki hun hno => by
        refine hfree k ok hk hki ?_ hno
        by_cases hjk : j = k
        · subst hjk; exact hjun
        · rw [getD_set_ne true hjk] at hun; exact hun
      have h2 := wpOp_frame hoj (wpOp_put hoj hap (fun cs b => hsel j oj cs b hoj) hQ h1)
      refine wpOp_mono ?_ h2
      rintro a' w' ⟨⟨u, ds, rfl⟩, h3, h4⟩
      refine ⟨h3, ih (listed.setIfInBounds j true) _ w' (h3 hjm) hfree' (ready_mono hr (Ne.symm hji)) (hf.keep hap (fun cs b => hsel i oi cs b hi)) ?_⟩
      rw [Array.setIfInBounds_comm _ _ hji]
      exact h4
/-- The walk of the head: operations that yield their values in each world of the class. -/
def wpHead (P : Program) (ops : Array Oper) (C : World → Prop) (K : Act → Prop) : List Oper → Act → Prop
 | [], a => K a
 | o :: rest, a => ∃ v, Free P ops C o v a ∧ wpHead P ops C K rest (a.put o.dst v)
def headB (md : Region.Mode) (ops : Array Oper) (m : Nat) : Nat → Nat → Array Bool → Bool
 | 0, _, _ => true
 | n + 1, k, listed => (Region.ready md ops listed).contains k && Region.free md ops listed k && ((List.range ops.size).all fun j => Nat.blt j m || Region.waitsFor md ops j k) && headB md ops m n (k + 1) (listed.setIfInBounds k true)
def listAt : Nat → Nat → Array Bool → Array Bool
 | 0, _, l => l
 | n + 1, k, l => listAt n (k + 1) (l.setIfInBounds k true)
theorem wpAC_head (hs : Region.noSelect ops = true) (hQ : ∀ c a a' w, Q (.panic c) a w → Q (.panic c) a' w) (x : Nat) {w : World} (hC : C w) : ∀ (l : List Oper) (k : Nat) (listed : Array Bool) (a : Act), (∀ j, j < l.length → l[j]? = ops[k + j]?) →
    headB md ops m l.length k listed = true → wpHead P ops C (fun a' => wpAC P md ops Q C m x (listAt l.length k listed) a' w) l a → wpAC P md ops Q C m (l.length + x) listed a w
  | [], k, listed, a, _, _, h => by simpa [listAt, wpHead] using h
  | o :: l, k, listed, a, hl, hB, h => by
    have h0 : ops[k]? = some o := by simpa using (hl 0 (by simp)).symm
    simp only [List.length_cons, headB, Bool.and_eq_true] at hB
    obtain ⟨⟨⟨hr, hfr⟩, hlate⟩, hB'⟩ := hB
    obtain ⟨v, hf, hK⟩ := h
    rw [List.length_cons, show l.length + 1 + x = (l.length + x) + 1 by omega]
    refine wpAC_first h0 (Region.noSelect_spec hs) hQ ?_ (l.length + x) listed a w hC (Region.free_spec h0 hfr) (by simpa using hr) hf (wpAC_head hs hQ x hC l (k + 1) _ _ (fun j hj => by have := hl (j + 1) (by simp; omega); simpa [Nat.add_assoc, Nat.add_comm 1 j] using this) hB' hK)
    intro j oj hoj hm
    have h1 := List.all_eq_true.1 hlate j (List.mem_range.2 (Array.getElem?_eq_some_iff.1 hoj).1)
    simp only [Bool.or_eq_true, Nat.blt_eq] at h1
    obtain ⟨oj', hoj', e, he, hb, hon⟩ := Region.waitsFor_spec (h1.resolve_left (by omega))
    rw [hoj] at hoj'
    obtain rfl := Option.some.inj hoj'
    exact ⟨e, he, hb, hon⟩
def AllOf : List Nat → (Nat → Prop) → Prop
 | [], _ => True
 | i :: is, p => p i ∧ AllOf is p
theorem AllOf.spec {p : Nat → Prop} : ∀ {is : List Nat}, AllOf is p → ∀ i ∈ is, p i
  | _ :: _, h, i, hi => by
    rcases List.mem_cons.1 hi with rfl | hi
    · exact h.1
    · exact AllOf.spec h.2 i hi
variable {nf : Nat} {f : Fr} {w : World}
def wpA (P : Program) (ops : Array Oper) (Q : Exit → Act → World → Prop) (C : World → Prop) (m fuel : Nat) (listed : Array Bool) (nf : Nat) (f : Fr) (w : World) : Prop := wpAC P .any ops Q C m fuel listed (mk nf f) w
theorem a_step {fuel : Nat} {listed : Array Bool} {i : Nat} {is : List Nat} (hr : Region.ready .any ops listed = i :: is)
    (h : AllOf (i :: is) fun i => ∃ o, ops[i]? = some o ∧ wpL P ops (Exit.then (fun a' w' => (i < m → C w') ∧ wpAC P .any ops Q C m fuel (listed.setIfInBounds i true) a' w') Q) nf [o] f w) : wpA P ops Q C m (fuel + 1) listed nf f w := by
  refine ⟨fun h0 => (by rw [hr] at h0; cases h0), fun j hj => ?_⟩
  rw [hr] at hj
  obtain ⟨o, ho, hw⟩ := h.spec j hj
  unfold wpOp
  simp only [ho]
  unfold wpL at hw
  unfold wpList at hw
  split
  · rename_i hwd
    rw [if_pos hwd] at hw
    rcases hw with hw | ⟨h1, h2⟩
    · left
      unfold Oper.wp at hw ⊢
      generalize (execOp (mk nf f).eval o).run P w = r at hw ⊢
      cases r with
      | ok x w' =>
        cases x <;> simp only [Oper.upon] at hw ⊢ <;> first
          | exact hw
          | (refine Calls.mono hw ?_
             intro e w'' he
             cases e <;> exact he)
          | exact hw.mono fun v w'' hv => hv
      | halt x w' => cases x <;> exact hw
    · exact .inr ⟨h1, h2⟩
  · rename_i hwd
    rw [if_neg hwd] at hw
    exact hw
theorem a_end {fuel : Nat} {listed : Array Bool} (hr : Region.ready .any ops listed = []) (h : Q .normal (mk nf f) w) : wpA P ops Q C m fuel listed nf f w := by
 cases fuel with
 | zero => exact ⟨hr, h⟩
 | succ n => exact ⟨fun _ => h, fun i hi => by rw [hr] at hi; cases hi⟩
def wpH (P : Program) (ops : Array Oper) (C : World → Prop) (K : Act → Prop) (nf : Nat) (l : List Oper) (f : Fr) : Prop := wpHead P ops C K l (mk nf f)
variable {K : Act → Prop} {rest : List Oper} {d : Nat} {ty : TypeId} {pos : String} {af : Array Edge}
theorem hv {op : Op} {v : Value} (hr : ∀ w, C w → Y P (ev nf f) op ty w v w) (h : wpH P ops C K nf rest (upd f d v)) : wpH P ops C K nf (⟨some d, op, ty, pos, af, none⟩ :: rest) f := by
 refine ⟨v, .inl ⟨by simp [Region.wanted], fun w hC => ?_⟩, ?_⟩
 ·
  rw [mk_eval, execOp_xop, hr w hC]
 ·
  show wpHead _ _ _ _ _ ((mk nf f).put (some d) v)
  rw [mk_put]
  exact h
theorem hnil (h : K (mk nf f)) : wpH P ops C K nf [] f := h
end
section
variable {P : Program} {ρ : Operand → Value} {w w0 : World} {ty : TypeId} {n : Nat} {f : Fr}
theorem yNil {x : Operand} {a : Addr} (hx : ρ x = .pointer (some a)) : Y P ρ (.nilCheck x) ty w (.pointer (some a)) w := by
 simp [Y, xop, execOp, hx]
def rsem (tmps : Array Value) : ResultVar → Sem Value
 | .tmp t => pure (tmps.getD t undef)
 | .cell a t => do loadVar t (← asAddr (tmps.getD a undef))
theorem results_rsem (fn : Func) (tmps : Array Value) : results fn tmps = (do let vs ← fn.results.mapM (rsem tmps); pure (if h : vs.size = 1 then vs[0] else .tuple vs)) := by
 unfold results
 congr 1
def RVal (P : Program) (n : Nat) (f : Fr) (w : World) (r : ResultVar) (v : Value) : Prop := (rsem (mk n f).tmps r).run P w = .ok v w
theorem rc {a T k : Nat} {b o : Nat} {cs vs : List Value} {t : TypeId} {fr : Nat × Nat} (hp : ev n f (.tmp a) = .pointer (some ⟨b, o, none⟩)) (hT : ∀ w, (isAgg T).run P w = .ok true w) (hs : ∀ w, (Go.sizeOf T).run P w = .ok k w)
    (hb : w.heap[b]? = some (.cells cs.toArray t fr)) (hv : (cs.drop o).take k = vs) (hl : vs.length = k) : RVal P n f w (.cell a T) (.agg vs.toArray) := by
  have h := yLdBA (P := P) (ty := 0) (ρ := ev n f) (a := .tmp a) (w := w) hp hT hs hb hv hl
  simp only [Y, xop, execOp, hp, Instr.loadAt, Instr.sureAddr, Sem.run_bind, Sem.run_pure, Result.andThen_ok] at h
  simp only [RVal, rsem, getD_mk, hp, Sem.run_bind, asAddr, Sem.run_pure, Result.andThen_ok]
  cases hr : (loadVar T ⟨b, o, none⟩).run P w with
  | ok v w' =>
    rw [hr] at h
    simp only [Result.andThen_ok, Result.ok.injEq, Next.value.injEq] at h
    rw [h.1, h.2]
  | halt e w' => rw [hr] at h; simp at h
theorem resV1 {fn : Func} {r : ResultVar} {v : Value} (h : fn.results = #[r]) (h1 : RVal P n f w r v) : (results fn (mk n f).tmps).run P w = .ok v w := by
 unfold RVal at h1
 simp [results_rsem, h, h1]
theorem resV2 {fn : Func} {r r' : ResultVar} {v v' : Value} (h : fn.results = #[r, r']) (h1 : RVal P n f w r v) (h2 : RVal P n f w r' v') : (results fn (mk n f).tmps).run P w = .ok (.tuple #[v, v']) w := by
 unfold RVal at h1 h2
 simp [results_rsem, h, h1, h2]
end
section
variable {P : Program} {ops : Array Oper} {Q : Exit → Act → World → Prop} {n : Nat} {f : Fr} {S : List Nat} {w0 w w' : World} {L L' : List Item} {rest : List Oper} {d : Nat} {ty : TypeId} {pos : String} {af : Array Edge}
theorem zeros_eq (zs : Array Value) (m : Nat) : ((Array.range (m * zs.size)).map (fun i => zs[i % zs.size]!)).toList = (List.replicate m zs.toList).flatten := by
 induction m with
 | zero => simp
 | succ m ih =>
  rw [List.replicate_succ', List.flatten_append, ← ih]
  simp only [Array.toList_map, Array.toList_range, List.flatten_cons, List.flatten_nil, List.append_nil]
  rw [Nat.succ_mul, List.range_add, List.map_append, List.map_map]
  congr 1
  apply List.ext_getElem?
  intro i
  simp only [List.getElem?_map, Function.comp_def]
  rcases Nat.lt_or_ge i zs.size with h | h
  ·
   rw [List.getElem?_range h]
   simp [Nat.mod_eq_of_lt h, h]
  ·
   rw [List.getElem?_eq_none (by simpa using h), List.getElem?_eq_none (by simpa using h)]
   rfl
theorem smake {T E : TypeId} {i : TypeInfo} {z : Value} {zs : List Value} {xl xc : Operand} {m bytes k : Nat} (hS : StX S w0 w L) (hl : ev n f xl = .int .i64 (m : Int)) (hc : ev n f xc = .int .i64 (m : Int)) (hT : P.underlying T = some (.slice E)) (hi : P.info? E = some i) (hz : i.zero = some z) (hsz : i.size = k)
    (hby : i.bytes = bytes) (hzs : z.cells.toList = zs) (hk : zs.length = k) (hb : bytes * m ≤ 281474976710656) (hm : m ≤ 9223372036854775807)
    (h : ∀ b w', StX S w0 w' (blk b (List.replicate m zs).flatten E :: L) → wpL P ops Q n rest (upd f d (.slice (some ⟨b, 0, none⟩) m m)) w') : wpL P ops Q n (⟨some d, .makeSlice T xl xc, ty, pos, af, none⟩ :: rest) f w := by
  refine sv (v := .slice (some ⟨w.heap.size, 0, none⟩) m m) (w' := w.alloc (.cells (List.replicate m zs).flatten.toArray E (0, 0))) ?_ (h w.heap.size _ (hS.call1 (St.new w _)))
  subst hzs hby
  have hzk : z.cells.size = k := by rw [← hk]; simp
  have hr := run_make (P := P) w T E i z hT hi hz .i64 .i64 m m (by omega) (Int.le_refl _) (by omega) (by omega)
  have e := zeros_eq z.cells m
  have e2 : madeCells z.cells (m * i.size) = (List.replicate m z.cells.toList).flatten.toArray := by
    rw [hsz, ← hzk, ← e]
    rfl
  simp only [Int.toNat_natCast] at hr
  rw [e2] at hr
  simp only [Y, xop, execOp, hl, hc]
  rw [Sem.run_bind, hr]
  rfl
end
section
variable {P : Program} {ρ : Operand → Value} {w w' : World} {ty : TypeId}
theorem Y.to {op : Op} {v v' : Value} (h : Y P ρ op ty w v w') (e : v = v') : Y P ρ op ty w v' w' := e ▸ h
theorem yQuoP {x y : Operand} {a b : Int} {t t' : TypeId} (hx : ρ x = .int .i64 a) (hy : ρ y = .int .i64 b) (ha : 0 ≤ a ∧ a ≤ 9223372036854775807) (hb : 0 < b) : Y P ρ (.binOp .quo t x y t') ty w (.int .i64 (a / b)) w :=
 Y.to (yQuo hx hy hb ⟨by omega, ha.2⟩) (by rw [Int.tdiv_eq_ediv_of_nonneg ha.1])
theorem row_some {e : TypeId} {k n : Nat} {v : Value} {xs : List Value} (h : w.ownsRow 0 e k v n xs) (hn : 0 < n) : ∃ g cap, v = .slice (some ⟨g, 0, none⟩) n cap ∧ n ≤ cap ∧ cap ≤ 9223372036854775807 ∧ Cells w g 0 xs := by
 rcases h.2 with ⟨_, h0⟩ | ⟨g, cap, cur, rfl, _, hg, hnc, hm, hc, ht⟩
 ·
  omega
 ·
  refine ⟨g, cap, rfl, hnc, by simp only [maxLen] at hm; omega, fun j u hu => ?_⟩
  rw [Nat.zero_add, World.cell?, hg]
  have hj : j < n * k := by
   have := (List.getElem?_eq_some_iff.1 hu).1
   rwa [h.1] at this
  rw [← ht, List.getElem?_take, if_pos hj] at hu
  simpa using hu
end
theorem slice_inj {a a' : Option Addr} {l l' c c' : Nat} (h : Value.slice a l c = .slice a' l' c') : a' = a ∧ c' = c := by
 injection h with h1 h2 h3
 exact ⟨h1.symm, h3.symm⟩
theorem splice_len (cs : List Value) (o : Nat) (vs : List Value) (h : o + vs.length ≤ cs.length) : (splice cs o vs).length = cs.length := by
 unfold splice
 simp
 omega
theorem ints_sl {w : World} {b : Nat} {t : TypeId} {l : List Int} (h : w.heap[b]? = some (.cells (l.map (Value.int .i64)).toArray t (0, 0))) (hl : ∀ x ∈ l, I64 x) (hn : l.length ≤ 9223372036854775807 := by decide) : Sl w 1 RInt (.slice (some ⟨b, 0, none⟩) l.length l.length) l := by
 refine ⟨_, _, rfl, Nat.le_refl _, hn, fun i hi => ⟨b, 0, [.int .i64 l[i]], rfl, rfl, ?_, rfl, hl _ (List.getElem_mem hi)⟩⟩
 intro j v hv
 match j, hv with
 | 0, hv =>
  refine cell_of h ?_
  simp at hv ⊢
  exact ⟨l[i], by simp, hv⟩
 | j + 1, hv => simp at hv
section
variable {P : Program} {ρ : Operand → Value} {w w' : World} {ty : TypeId}
theorem yIx0 {x i : Operand} {T e : TypeId} {b len cap k m : Nat} {kd : IntKind} (hx : ρ x = .slice (some ⟨b, 0, none⟩) len cap) (hi : ρ i = .int kd (m : Int)) (hu : ∀ w, (underlying T).run P w = .ok (.slice e) w)
    (hs : ∀ w, (Go.sizeOf e).run P w = .ok k w) (h1 : m < len) : Y P ρ (.indexAddr T x i) ty w (.pointer (some ⟨b, m * k, none⟩)) w :=
  Y.to (yIx hx hi hu hs (by omega) (by omega)) (by rw [Int.toNat_natCast, Nat.zero_add])
end
section
variable {P : Program} {ρ : Operand → Value} {w : World} {ty : TypeId}
theorem yConvW {x : Operand} {k k' : IntKind} {a : Int} {s d : TypeId} {ts : TypeDesc} (hx : ρ x = .int k a) (hs : P.underlying s = some ts) (hd : P.underlying d = some (.int k')) : Y P ρ (.convert s d x) ty w (.int k' (k'.wrap a)) w := by
 simp [Y, xop, execOp, hx, convert, Conv.intToInt, run_underlying hs, run_underlying hd]
theorem yToU {x : Operand} {a : Int} {s d : TypeId} {ts : TypeDesc} (hx : ρ x = .int .i64 a) (hs : P.underlying s = some ts) (hd : P.underlying d = some (.int .u64)) (ha : 0 ≤ a ∧ a ≤ 18446744073709551615) : Y P ρ (.convert s d x) ty w (.int .u64 a) w :=
 Y.to (yConvW hx hs hd) (by rw [IntWalk.u64_in a ha])
theorem yToI {x : Operand} {a : Int} {s d : TypeId} {ts : TypeDesc} {k : IntKind} (hx : ρ x = .int k a) (hs : P.underlying s = some ts) (hd : P.underlying d = some (.int .i64)) (ha : I64 a) : Y P ρ (.convert s d x) ty w (.int .i64 a) w :=
 Y.to (yConvW hx hs hd) (by rw [wrap_in ha])
end
section
variable {P : Program} {ops : Array Oper} {Q : Exit → Act → World → Prop} {n : Nat} {rest : List Oper} {f : Fr} {S : List Nat} {w0 w : World} {L : List Item} {d : Nat} {ty : TypeId} {pos : String} {af : Array Edge}
end
/-- Rows of cells and what they read as. -/
def Rows {α : Type} (w : World) (k : Nat) (R : World → List Value → α → Prop) : List (List Value) → List α → Prop
 | [], [] => True
 | cs :: css, x :: l => cs.length = k ∧ R w cs x ∧ Rows w k R css l
 | _, _ => False
theorem Rows.get {α : Type} {w : World} {k : Nat} {R : World → List Value → α → Prop} : ∀ {css : List (List Value)} {l : List α}, Rows w k R css l → ∀ i (h : i < l.length), ∃ cs, css[i]? = some cs ∧ cs.length = k ∧ R w cs l[i] ∧ ∀ j, j < k → css.flatten[i * k + j]? = cs[j]?
  | [], [], _, i, h => absurd h (Nat.not_lt_zero i)
  | cs :: css, x :: l, ⟨h1, h2, h3⟩, 0, _ => ⟨cs, rfl, h1, h2, fun j hj => by rw [List.flatten_cons, Nat.zero_mul, Nat.zero_add, List.getElem?_append_left (by omega)]⟩
  | cs :: css, x :: l, ⟨h1, h2, h3⟩, i + 1, h => by
    obtain ⟨c, e1, e2, e3, e4⟩ := Rows.get h3 i (by simpa using h)
    refine ⟨c, e1, e2, e3, fun j hj => ?_⟩
    rw [List.flatten_cons, Nat.succ_mul, List.getElem?_append_right (by omega), ← e4 j hj]
    congr 1; omega
theorem sl_of_blk {α : Type} {w : World} {b k : Nat} {T : TypeId} {R : World → List Value → α → Prop} {css : List (List Value)} {l : List α} {v : Value} {cells : List Value} (hb : w.heap[b]? = some (.cells cells.toArray T (0, 0))) (hc : cells = css.flatten) (hr : Rows w k R css l) (hl : l.length ≤ 1000) (hv : v = .slice (some ⟨b, 0, none⟩) l.length l.length) : Sl w k R v l := by
 subst hc hv
 refine ⟨some ⟨b, 0, none⟩, l.length, rfl, Nat.le_refl _, by omega, fun i hi => ?_⟩
 obtain ⟨cs, _, e2, e3, e4⟩ := hr.get i hi
 refine ⟨b, 0, cs, rfl, e2, fun j v hv => ?_, e3⟩
 have hj : j < k := by have := (List.getElem?_eq_some_iff.1 hv).1; omega
 have := e4 j hj
 rw [hv] at this
 rw [Nat.zero_add]
 exact cell_of hb this
instance (a : Int) : Decidable (I64 a) := inferInstanceAs (Decidable (_ ∧ _))
/-- Two statements, and what holds between them. -/
theorem seqJ {P : Program} {Q : Exit → Act → World → Prop} {n : Nat} {a : Act} {w : World} {x y : Code} (I : Fr → World → Prop) (hx : x.wp P (Exit.then (fun a w => ∃ f, a = mk n f ∧ I f w) Q) a w) (hy : ∀ f w, I f w → y.wp P Q (mk n f) w) : (Code.seq x y).wp P Q a w := by
 refine wp_seq (wp_mono hx ?_)
 intro e a w h
 cases e with
 | normal => obtain ⟨f, rfl, hI⟩ := h; exact hy f w hI
 | _ => exact h
section
variable {P : Program} {ops : Array Oper} {Q : Exit → Act → World → Prop} {md : Region.Mode} {C : World → Prop} {m : Nat} {R : Nat → World → World → Prop}
/-- Whatever order is picked from here on; each operation keeps the relation. -/
def wpAR (P : Program) (md : Region.Mode) (ops : Array Oper) (Q : Exit → Act → World → Prop) (R : Nat → World → World → Prop) : Nat → Array Bool → Act → World → Prop
  | 0, listed, a, w => Region.ready md ops listed = [] ∧ Q .normal a w
  | fuel + 1, listed, a, w => (Region.ready md ops listed = [] → Q .normal a w) ∧
      ∀ i ∈ Region.ready md ops listed, wpOp P ops Q i (fun a' w' => R i w w' ∧ wpAR P md ops Q R fuel (listed.setIfInBounds i true) a' w') a w
theorem wpAny_of_AR : ∀ (fuel : Nat) (listed : Array Bool) (a : Act) (w : World), wpAR P md ops Q R fuel listed a w → wpAny P md ops Q fuel listed a w
 | 0, _, _, _, h => h
 | fuel + 1, _, _, _, h => ⟨h.1, fun i hi => wpOp_mono (fun a' w' h' => wpAny_of_AR fuel _ a' w' h'.2) (h.2 i hi)⟩
theorem wpAR_first {i : Nat} {oi : Oper} {v : Value} (hR : ∀ i w, R i w w) (hRC : ∀ j w w', R j w w' → j < m → C w → C w') (hi : ops[i]? = some oi) (hsel : ∀ (j : Nat) (o : Oper) cs b, ops[j]? = some o → o.op ≠ .select cs b) (hQ : ∀ c a a' w, Q (.panic c) a w → Q (.panic c) a' w)
    (late : ∀ j oj, ops[j]? = some oj → m ≤ j → ∃ e ∈ oj.after, Region.binds md e = true ∧ e.on = i) :
    ∀ (fuel : Nat) (listed : Array Bool) (a : Act) (w : World), C w →
      (∀ j oj, ops[j]? = some oj → j ≠ i → listed.getD j true = false → (∀ e ∈ oj.after, Region.binds md e = true → e.on ≠ i) → oi.apart ops oj = true) →
      i ∈ Region.ready md ops listed → Free P ops C oi v a →
      wpAR P md ops Q R fuel (listed.setIfInBounds i true) (a.put oi.dst v) w → wpAR P md ops Q R (fuel + 1) listed a w := by
  intro fuel
  induction fuel with
  | zero =>
    intro listed a w hC hfree hr hf H
    refine ⟨fun h => (by rw [h] at hr; cases hr), fun j hj => ?_⟩
    by_cases hji : j = i
    · subst hji; exact hf.op hi hC ⟨hR _ _, H⟩
    · have := ready_mono hj hji
      rw [H.1] at this
      cases this
  | succ fuel ih =>
    intro listed a w hC hfree hr hf H
    refine ⟨fun h => (by rw [h] at hr; cases hr), fun j hj => ?_⟩
    by_cases hji : j = i
    · subst hji; exact hf.op hi hC ⟨hR _ _, H⟩
    · have h1 := H.2 j (ready_mono hj hji)
      obtain ⟨hjun, oj, hoj, hall⟩ := mem_ready.1 hj
      have hun := (mem_ready.1 hr).1
      have hifalse : listed.getD i false = false := by
        rcases Nat.lt_or_ge i listed.size with h' | h'
        · simp [h'] at hun ⊢; exact hun
        · simp [Array.getElem?_eq_none h'] at hun
      have hnot : ∀ e ∈ oj.after, Region.binds md e = true → e.on ≠ i := fun e he hb heq => by
        have h0 := hall e he hb
        rw [heq, hifalse] at h0
        cases h0
      have hjm : j < m := by
        rcases Nat.lt_or_ge j m with h | h
        · exact h
        · obtain ⟨e, he, hb, hon⟩ := late j oj hoj h
          exact absurd hon (hnot e he hb)
      have hap := hfree j oj hoj hji hjun hnot
      have hfree' : ∀ k ok, ops[k]? = some ok → k ≠ i → (listed.setIfInBounds j true).getD k true = false →
          (∀ e ∈ ok.after, Region.binds md e = true → e.on ≠ i) → oi.apart ops ok = true := fun k ok hk hki hun hno => by
        refine hfree k ok hk hki ?_ hno
        by_cases hjk : j = k
        · subst hjk; exact hjun
        · rw [getD_set_ne true hjk] at hun; exact hun
      have h2 := wpOp_frame hoj (wpOp_put hoj hap (fun cs b => hsel j oj cs b hoj) hQ h1)
      refine wpOp_mono ?_ h2
      rintro a' w' ⟨⟨u, ds, rfl⟩, h3, h4⟩
      refine ⟨h3, ih (listed.setIfInBounds j true) _ w' (hRC _ _ _ h3 hjm hC) hfree' (ready_mono hr (Ne.symm hji)) (hf.keep hap (fun cs b => hsel i oi cs b hi)) ?_⟩
      rw [Array.setIfInBounds_comm _ _ hji]
      exact h4
/-- The class of an operation: none, the first one, the second one. -/
def clC (C1 C2 : World → Prop) : Nat → World → Prop
 | 0, _ => True
 | 1, w => C1 w
 | _, w => C2 w
def clM (big m1 m2 : Nat) : Nat → Nat
 | 0 => big
 | 1 => m1
 | _ => m2
def clR (C1 C2 : World → Prop) (m1 m2 : Nat) (i : Nat) (w w' : World) : Prop := (i < m1 → C1 w → C1 w') ∧ (i < m2 → C2 w → C2 w')
def headF (md : Region.Mode) (ops : Array Oper) (m1 m2 : Nat) : List Nat → Nat → Array Bool → Bool
 | [], _, _ => true
 | c :: cs, k, listed => (Region.ready md ops listed).contains k && Region.free md ops listed k && ((List.range ops.size).all fun j => Nat.blt j (clM ops.size m1 m2 c) || Region.waitsFor md ops j k) && headF md ops m1 m2 cs (k + 1) (listed.setIfInBounds k true)
def wpHF (P : Program) (ops : Array Oper) (C1 C2 : World → Prop) (K : Act → Prop) : List Nat → List Oper → Act → Prop
 | [], _, a => K a
 | c :: cs, o :: rest, a => ∃ v, Free P ops (clC C1 C2 c) o v a ∧ wpHF P ops C1 C2 K cs rest (a.put o.dst v)
 | _ :: _, [], _ => False
theorem wpAR_head {C1 C2 : World → Prop} {m1 m2 : Nat} (hs : Region.noSelect ops = true) (hQ : ∀ c a a' w, Q (.panic c) a w → Q (.panic c) a' w) (x : Nat) {w : World} (hC1 : C1 w) (hC2 : C2 w) : ∀ (cs : List Nat) (l : List Oper) (k : Nat) (listed : Array Bool) (a : Act), (∀ j, j < l.length → l[j]? = ops[k + j]?) →
    headF md ops m1 m2 cs k listed = true → wpHF P ops C1 C2 (fun a' => wpAR P md ops Q (clR C1 C2 m1 m2) x (listAt cs.length k listed) a' w) cs l a → wpAR P md ops Q (clR C1 C2 m1 m2) (cs.length + x) listed a w
  | [], l, k, listed, a, _, _, h => by simpa [listAt, wpHF] using h
  | _ :: _, [], _, _, _, _, _, h => absurd h (by simp [wpHF])
  | c :: cs, o :: l, k, listed, a, hl, hB, h => by
    have h0 : ops[k]? = some o := by simpa using (hl 0 (by simp)).symm
    simp only [headF, Bool.and_eq_true] at hB
    obtain ⟨⟨⟨hr, hfr⟩, hlate⟩, hB'⟩ := hB
    obtain ⟨v, hf, hK⟩ := h
    rw [List.length_cons, show cs.length + 1 + x = (cs.length + x) + 1 by omega]
    refine wpAR_first (C := clC C1 C2 c) (m := clM ops.size m1 m2 c) (fun i w => ⟨fun _ h => h, fun _ h => h⟩) ?_ h0 (Region.noSelect_spec hs) hQ ?_ (cs.length + x) listed a w ?_ (Region.free_spec h0 hfr) (by simpa using hr) hf
      (wpAR_head hs hQ x hC1 hC2 cs l (k + 1) _ _ (fun j hj => by have := hl (j + 1) (by simp; omega); simpa [Nat.add_assoc, Nat.add_comm 1 j] using this) hB' hK)
    · intro j w w' h1 h2 h3
      match c with
      | 0 => trivial
      | 1 => exact h1.1 h2 h3
      | _ + 2 => exact h1.2 h2 h3
    · intro j oj hoj hm
      have h1 := List.all_eq_true.1 hlate j (List.mem_range.2 (Array.getElem?_eq_some_iff.1 hoj).1)
      simp only [Bool.or_eq_true, Nat.blt_eq] at h1
      obtain ⟨oj', hoj', e, he, hb, hon⟩ := Region.waitsFor_spec (h1.resolve_left (by omega))
      rw [hoj] at hoj'
      obtain rfl := Option.some.inj hoj'
      exact ⟨e, he, hb, hon⟩
    · match c with
      | 0 => trivial
      | 1 => exact hC1
      | _ + 2 => exact hC2
variable {nf : Nat} {f : Fr} {w : World} {C1 C2 : World → Prop} {m1 m2 : Nat}
def wpR (P : Program) (ops : Array Oper) (Q : Exit → Act → World → Prop) (C1 C2 : World → Prop) (m1 m2 fuel : Nat) (listed : Array Bool) (nf : Nat) (f : Fr) (w : World) : Prop := wpAR P .any ops Q (clR C1 C2 m1 m2) fuel listed (mk nf f) w
theorem r_step {fuel : Nat} {listed : Array Bool} {i : Nat} {is : List Nat} (hr : Region.ready .any ops listed = i :: is)
    (h : AllOf (i :: is) fun i => ∃ o, ops[i]? = some o ∧ wpL P ops (Exit.then (fun a' w' => ((i < m1 → C1 w → C1 w') ∧ (i < m2 → C2 w → C2 w')) ∧ wpAR P .any ops Q (clR C1 C2 m1 m2) fuel (listed.setIfInBounds i true) a' w') Q) nf [o] f w) : wpR P ops Q C1 C2 m1 m2 (fuel + 1) listed nf f w := by
  refine ⟨fun h0 => (by rw [hr] at h0; cases h0), fun j hj => ?_⟩
  rw [hr] at hj
  obtain ⟨o, ho, hw⟩ := h.spec j hj
  unfold wpOp
  simp only [ho]
  unfold wpL at hw
  unfold wpList at hw
  split
  · rename_i hwd
    rw [if_pos hwd] at hw
    rcases hw with hw | ⟨h1, h2⟩
    · left
      unfold Oper.wp at hw ⊢
      generalize (execOp (mk nf f).eval o).run P w = r at hw ⊢
      cases r with
      | ok x w' =>
        cases x <;> simp only [Oper.upon] at hw ⊢ <;> first
          | exact hw
          | (refine Calls.mono hw ?_
             intro e w'' he
             cases e <;> exact he)
          | exact hw.mono fun v w'' hv => hv
      | halt x w' => cases x <;> exact hw
    · exact .inr ⟨h1, h2⟩
  · rename_i hwd
    rw [if_neg hwd] at hw
    exact hw
theorem r_end {fuel : Nat} {listed : Array Bool} (hr : Region.ready .any ops listed = []) (h : Q .normal (mk nf f) w) : wpR P ops Q C1 C2 m1 m2 fuel listed nf f w := by
 cases fuel with
 | zero => exact ⟨hr, h⟩
 | succ n => exact ⟨fun _ => h, fun i hi => by rw [hr] at hi; cases hi⟩
def wpG (P : Program) (ops : Array Oper) (C1 C2 : World → Prop) (K : Act → Prop) (cs : List Nat) (nf : Nat) (l : List Oper) (f : Fr) : Prop := wpHF P ops C1 C2 K cs l (mk nf f)
/-- A statement that draws its order: the first operations yield their values in each world of their classes; the rest in each order. -/
theorem region_two {S : List Nat} {w0 : World} {L : List Item} {id : Nat} {l : List Oper} (hm : P.follows .mixedOrders = true) (cs : List Nat) (m1 m2 : Nat) (C1 C2 : World → Prop)
    (hB : (Region.noSelect l.toArray && headF .any l.toArray m1 m2 cs 0 (Array.replicate l.length false) && Nat.ble cs.length l.length) = true) (hQ : ∀ c a a' w, Q (.panic c) a w → Q (.panic c) a' w) (hS : StX S w0 w L) (hC1 : ∀ w, StX S w0 w L → C1 w) (hC2 : ∀ w, StX S w0 w L → C2 w)
    (h : ∀ w, StX S w0 w L → wpG P l.toArray C1 C2 (fun a' => wpAR P .any l.toArray Q (clR C1 C2 m1 m2) (l.length - cs.length) (listAt cs.length 0 (Array.replicate l.length false)) a' w) cs nf l f) : (Code.region id l.toArray true).wp P Q (mk nf f) w := by
  simp only [Bool.and_eq_true, Nat.ble_eq] at hB
  obtain ⟨⟨hs, hh⟩, hn⟩ := hB
  have hS' := hS.step (ext_drew w)
  refine wp_region_any hm (wpAny_of_AR (R := clR C1 C2 m1 m2) _ _ _ _ ?_)
  have := wpAR_head (P := P) (Q := Q) (md := .any) (ops := l.toArray) (m1 := m1) (m2 := m2) hs hQ (l.length - cs.length) (hC1 _ hS') (hC2 _ hS') cs l 0 (Array.replicate l.length false) (mk nf f) (fun j hj => by simp) hh (h _ hS')
  rw [show cs.length + (l.length - cs.length) = l.length by omega] at this
  simpa using this
variable {K : Act → Prop} {rest : List Oper} {d : Nat} {ty : TypeId} {pos : String} {af : Array Edge} {cs : List Nat}
theorem hvc {c : Nat} {op : Op} {v : Value} (hr : ∀ w, clC C1 C2 c w → Y P (ev nf f) op ty w v w) (h : wpG P ops C1 C2 K cs nf rest (upd f d v)) : wpG P ops C1 C2 K (c :: cs) nf (⟨some d, op, ty, pos, af, none⟩ :: rest) f := by
 refine ⟨v, .inl ⟨by simp [Region.wanted], fun w hC => ?_⟩, ?_⟩
 ·
  rw [mk_eval, execOp_xop, hr w hC]
 ·
  show wpHF _ _ _ _ _ _ _ ((mk nf f).put (some d) v)
  rw [mk_put]
  exact h
theorem hv0 {op : Op} {v : Value} (hr : ∀ w, Y P (ev nf f) op ty w v w) (h : wpG P ops C1 C2 K cs nf rest (upd f d v)) : wpG P ops C1 C2 K (0 :: cs) nf (⟨some d, op, ty, pos, af, none⟩ :: rest) f := hvc (fun w _ => hr w) h
theorem hv1 {op : Op} {v : Value} (hr : ∀ w, C1 w → Y P (ev nf f) op ty w v w) (h : wpG P ops C1 C2 K cs nf rest (upd f d v)) : wpG P ops C1 C2 K (1 :: cs) nf (⟨some d, op, ty, pos, af, none⟩ :: rest) f := hvc hr h
theorem hgnil {l : List Oper} (h : K (mk nf f)) : wpG P ops C1 C2 K [] nf l f := h
end
open Go.ChangeShapes Go.WideShapes
/-- Whatever the model's reader reads at type t, reads as R. -/
def Rd {α : Type} (P : Program) (t : TypeId) (R : World → List Value → α → Prop) : Prop :=
 ∀ (H : Type) (enc : TypeId × Value → H) (w : World) (base : Nat) (spare : Nat → Bool) (held : Bool) (fuel : Nat) (cs : List Value) (x : DataW H × List MemPlace), DataW.trod enc P w base spare held fuel t cs = some x → ∃ a, R w cs a
section
variable {P : Program} {t e : TypeId}
theorem i64_of_wf {n : Int} (h : (Lit.int .i64 n).wf = true) : I64 n := by
 have := bounds_i64 h
 unfold I64; omega
theorem rd_int (ht : P.underlying t = some (.int .i64)) : Rd P t RInt := by
 intro H enc w base spare held fuel cs x h
 obtain ⟨n, rfl, _, hw⟩ := DataW.trod_int ht h
 exact ⟨n, rfl, i64_of_wf hw⟩
def RU8 (_ : World) (cs : List Value) (n : Int) : Prop := cs = [.int .u8 n] ∧ 0 ≤ n ∧ n ≤ 255
def RI8 (_ : World) (cs : List Value) (n : Int) : Prop := cs = [.int .i8 n] ∧ -128 ≤ n ∧ n ≤ 127
theorem RU8.stays : Stays RU8 := fun _ _ _ _ _ h => h
theorem RI8.stays : Stays RI8 := fun _ _ _ _ _ h => h
def RStr (_ : World) (cs : List Value) (s : ByteArray) : Prop := cs = [.string s] ∧ s.size ≤ 9223372036854775807
theorem RStr.stays : Stays RStr := fun _ _ _ _ _ h => h
theorem rd_str (ht : P.underlying t = some .string) : Rd P t RStr := by
 intro H enc w base spare held fuel cs x h
 obtain ⟨s, rfl, _, hs⟩ := DataW.trod_string ht h
 exact ⟨s, rfl, by simp only [maxLen] at hs; omega⟩
def RBool (_ : World) (cs : List Value) (b : Bool) : Prop := cs = [.bool b]
theorem RBool.stays : Stays RBool := fun _ _ _ _ _ h => h
theorem rd_bool (ht : P.underlying t = some .bool) : Rd P t RBool := by
 intro H enc w base spare held fuel cs x h
 obtain ⟨b, rfl, _⟩ := DataW.trod_bool ht h
 exact ⟨b, rfl⟩
theorem list_of {α : Type} {p : Nat → α → Prop} : ∀ n, (∀ i, i < n → ∃ x, p i x) → ∃ l : List α, l.length = n ∧ ∀ i (h : i < l.length), p i l[i]
  | 0, _ => ⟨[], rfl, fun i h => absurd h (Nat.not_lt_zero i)⟩
  | n + 1, h => by
    obtain ⟨l, hl, hp⟩ := list_of n (fun i hi => h i (by omega))
    obtain ⟨x, hx⟩ := h n (by omega)
    refine ⟨l ++ [x], by simp [hl], fun i hi => ?_⟩
    rcases Nat.lt_or_ge i l.length with h1 | h1
    · rw [List.getElem_append_left h1]; exact hp i h1
    · have : i = l.length := by simp at hi; omega
      subst this
      rw [List.getElem_append_right (Nat.le_refl _)]
      simpa [hl] using hx
theorem addr_of {w : World} {a : Addr} {v : Value} (h : w.cell? a = some v) : a = ⟨a.block, a.off, none⟩ := by
 have := World.cell?_spot h
 cases a; simp_all
theorem three_of {cs : List Value} (h : cs.length = 3) : ∃ a b c, cs = [a, b, c] := by
 match cs, h with
 | [a, b, c], _ => exact ⟨a, b, c, rfl⟩
theorem five_of {cs : List Value} (h : cs.length = 5) : ∃ a b c d e, cs = [a, b, c, d, e] := by
 match cs, h with
 | [a, b, c, d, e], _ => exact ⟨a, b, c, d, e, rfl⟩
end
theorem snoc {p : Nat → Prop} {k : Nat} (h : ∀ i, i < k → p i) (hk : p k) : ∀ i, i < k + 1 → p i := fun i hi => by
 rcases Nat.lt_or_ge i k with e | e
 ·
  exact h i e
 ·
  obtain rfl : i = k := by omega
  exact hk
def outB (a lo hi : Int) : Bool := decide (a < lo) || decide (hi < a)
theorem outB_false {a lo hi : Int} : outB a lo hi = false ↔ lo ≤ a ∧ a ≤ hi := by
 simp only [outB, Bool.or_eq_false_iff, decide_eq_false_iff_not]; omega
def idxF {α : Type} (p : α → Bool) : List α → Int → Int
 | [], _ => -1
 | x :: xs, i => if p x = true then i else idxF p xs (i + 1)
theorem idxF_any {α : Type} (p : α → Bool) : ∀ (l : List α) (i : Int), 0 ≤ i → decide (0 ≤ idxF p l i) = l.any p
  | [], i, _ => by simp [idxF]
  | x :: xs, i, h => by
    simp only [idxF, List.any_cons]
    by_cases hx : p x = true
    · simp [hx, h]
    · simp only [hx, if_false, Bool.false_or, Bool.false_eq_true]
      exact idxF_any p xs (i + 1) (by omega)
structure Span where
 lo : Int
 hi : Int
deriving DecidableEq
def spanC (s : Span) : List Value := [.int .i64 s.lo, .int .i64 s.hi]
/-- A number from lo to hi. -/
abbrev Bd (a lo hi : Int) : Prop := lo ≤ a ∧ a ≤ hi
theorem splice_enc {α : Type} {enc : α → List Value} {k : Nat} (hk : ∀ x, (enc x).length = k) : ∀ (l : List α) (i : Nat) (x : α), i < l.length → splice (l.flatMap enc) (i * k) (enc x) = (l.set i x).flatMap enc
  | [], i, x, h => absurd h (Nat.not_lt_zero i)
  | y :: l, 0, x, _ => by
    unfold splice
    rw [Nat.zero_mul, Nat.zero_add, List.take_zero, List.nil_append, List.set_cons_zero, List.flatMap_cons, List.flatMap_cons, hk, ← hk y, List.drop_left]
  | y :: l, i + 1, x, h => by
    have ih := splice_enc hk l i x (by simpa using h)
    unfold splice at ih ⊢
    rw [List.set_cons_succ, List.flatMap_cons, List.flatMap_cons, ← ih]
    have e : (i + 1) * k = (enc y).length + i * k := by rw [hk, Nat.succ_mul]; omega
    rw [e, List.take_length_add_append, Nat.add_assoc, List.drop_length_add_append]
    simp [List.append_assoc]
theorem take_snoc {α : Type} {l : List α} {k : Nat} {x : α} (h : l[k]? = some x) : l.take (k + 1) = l.take k ++ [x] := by
 obtain ⟨h1, h2⟩ := List.getElem?_eq_some_iff.1 h
 rw [List.take_succ_eq_append_getElem h1, h2]
def RSpan (_ : World) (cs : List Value) (s : Span) : Prop := cs = spanC s ∧ I64 s.lo ∧ I64 s.hi
theorem RSpan.stays : Stays RSpan := fun _ _ _ _ _ h => h
theorem sl_of_row {α : Type} {w : World} {e : TypeId} {k n : Nat} {R : World → List Value → α → Prop} {css : List (List Value)} {l : List α} {v : Value} (h : w.ownsRow 0 e k v n css.flatten) (hr : Rows w k R css l) (hn : l.length = n) : Sl w k R v l := by
 subst hn
 rcases h.2 with ⟨rfl, h0⟩ | ⟨g, cap, cur, rfl, _, hg, hc, hm, _, ht⟩
 ·
  obtain rfl : l = [] := List.eq_nil_of_length_eq_zero h0
  exact Sl.nil
 ·
  refine ⟨_, cap, rfl, hc, by simp only [maxLen] at hm; omega, fun i hi => ?_⟩
  obtain ⟨cs, _, e2, e3, e4⟩ := hr.get i hi
  refine ⟨g, 0, cs, rfl, e2, fun j u hu => ?_, e3⟩
  have hj : j < k := by have := (List.getElem?_eq_some_iff.1 hu).1; omega
  have h5 := (e4 j hj).trans hu
  have hlt : i * k + j < l.length * k := by
   have := (List.getElem?_eq_some_iff.1 h5).1
   rwa [h.1] at this
  rw [← ht, List.getElem?_take, if_pos hlt] at h5
  rw [Nat.zero_add, World.cell?, hg]
  simpa using h5
theorem Rows.snoc {α : Type} {w : World} {k : Nat} {R : World → List Value → α → Prop} : ∀ {css : List (List Value)} {l : List α} {cs : List Value} {x : α}, Rows w k R css l → cs.length = k → R w cs x → Rows w k R (css ++ [cs]) (l ++ [x])
 | [], [], cs, x, _, h1, h2 => ⟨h1, h2, trivial⟩
 | c :: css, y :: l, cs, x, ⟨a, b, c'⟩, h1, h2 => ⟨a, b, Rows.snoc c' h1 h2⟩
 | [], _ :: _, _, _, h, _, _ => h.elim
 | _ :: _, [], _, _, h, _, _ => h.elim
theorem Rows.ext {α : Type} {w w' : World} {k : Nat} {R : World → List Value → α → Prop} (hR : Stays R) (e : Ext w w') : ∀ {css : List (List Value)} {l : List α}, Rows w k R css l → Rows w' k R css l
 | [], [], _ => trivial
 | c :: css, y :: l, ⟨a, b, c'⟩ => ⟨a, hR _ _ _ _ e b, Rows.ext hR e c'⟩
 | [], _ :: _, h => h.elim
 | _ :: _, [], h => h.elim
def encI (n : Int) : List Value := [.int .i64 n]
theorem encI_len (n : Int) : (encI n).length = 1 := rfl
theorem sl_ints {w : World} {e : TypeId} {v : Value} {n : Nat} {l : List Int} (h : w.ownsRow 0 e 1 v n (l.flatMap encI)) (hn : l.length = n) (hok : ∀ s ∈ l, I64 s) : Sl w 1 RInt v l := by
 subst hn
 exact row_sl encI_len h hok
theorem eq_of_get {α : Type} {a b : List α} (hl : a.length = b.length) (h : ∀ i, i < a.length → a[i]? = b[i]?) : a = b := by
 apply List.ext_getElem?
 intro i
 rcases Nat.lt_or_ge i a.length with h1 | h1
 ·
  exact h i h1
 ·
  rw [List.getElem?_eq_none h1, List.getElem?_eq_none (by omega)]
theorem row_shape {w : World} {e : TypeId} {k n : Nat} {v : Value} {xs : List Value} (h : w.ownsRow 0 e k v n xs) : ∃ a cap, v = .slice a n cap := by
 rcases h.2 with ⟨rfl, rfl⟩ | ⟨g, cap, cur, rfl, _⟩
 ·
  exact ⟨_, _, rfl⟩
 ·
  exact ⟨_, _, rfl⟩
theorem row_get {w : World} {e : TypeId} {k n cap : Nat} {a : Option Addr} {xs : List Value} (h : w.ownsRow 0 e k (.slice a n cap) n xs) (hn : 0 < n) : ∃ g, a = some ⟨g, 0, none⟩ ∧ Cells w g 0 xs := by
 obtain ⟨g, c, hv, _, _, hc⟩ := row_some h hn
 obtain ⟨rfl, rfl⟩ := slice_inj hv
 exact ⟨g, rfl, hc⟩
theorem row_at {w : World} {e : TypeId} {k n cap g : Nat} {a : Option Addr} {xs : List Value} (h : w.ownsRow 0 e k (.slice a n cap) n xs) (ha : a = some ⟨g, 0, none⟩) (hn : 0 < n) : Cells w g 0 xs := by
 obtain ⟨g', rfl, hc⟩ := row_get h hn
 cases ha
 exact hc
theorem getD_app {α : Type} {l : List α} {x d : α} {i k : Nat} (hl : l.length = k) : (l ++ [x]).getD i d = if i < k then l.getD i d else if i = k then x else d := by
 rw [List.getD_eq_getElem?_getD, List.getElem?_append]
 rw [hl]
 split
 ·
  rw [List.getD_eq_getElem?_getD]
 ·
  by_cases h : i = k
  ·
   subst h; simp
  ·
   rw [if_neg h, List.getElem?_eq_none (by simp; omega)]; rfl
theorem getD_hit {α : Type} {l : List α} {d x : α} {k : Nat} (h : l[k]? = some x) : l.getD k d = x := by rw [List.getD_eq_getElem?_getD, h]; rfl
theorem StX.toRow {S : List Nat} {w0 w : World} {L : List Item} {b : Nat} {cs : List Value} {T : TypeId} (h : StX S w0 w (blk b cs T :: L)) (k n : Nat) (hl : cs.length = n * k) (hn : n ≤ 1000000) : StX S w0 w (rowI (.slice (some ⟨b, 0, none⟩) n n) T k n cs :: L) := by
 refine ⟨h.extx, ?_, h.own, h.apart⟩
 intro it hit
 rcases List.mem_cons.1 hit with rfl | hi
 ·
  refine ⟨hl, .inr ⟨b, n, cs.toArray, rfl, Nat.zero_le _, h.at b, Nat.le_refl _, by simp only [maxLen]; omega, by simpa using hl, ?_⟩⟩
  show cs.take (n * k) = cs
  rw [← hl, List.take_length]
 ·
  exact h.ok it (List.mem_cons_of_mem _ hi)
theorem own_slice {a : Option Addr} {n m c d : Nat} : (Value.slice a n c).ownBlock = (Value.slice a m d).ownBlock := by cases a <;> rfl
theorem StX.startR {w : World} {v : Value} {E : TypeId} {k n : Nat} {xs : List Value} (h : w.ownsRow 0 E k v n xs) : StX v.ownBlock.toList w w [rowI v E k n xs] :=
  .start (fun it hit => by obtain rfl : it = _ := by simpa using hit
                           exact h) (fun c hc => by simpa [fps, rowI] using hc) (by show (v.ownBlock.toList ++ []).Nodup; cases hv : v.ownBlock <;> simp)
theorem StX.grown {v : Value} {w0 w : World} {L : List Item} (h : StX v.ownBlock.toList w0 w L) : w0.grownBy w v.ownBlock :=
 ⟨h.extx.os, h.extx.tape, h.extx.output, h.extx.size, fun k hk hn => h.extx.block k hk (fun hm => hn (by cases hv : v.ownBlock with | none => rw [hv] at hm; cases hm | some b => rw [hv] at hm; simp at hm; rw [hm]))⟩
theorem cut_at {α : Type} {l : List α} {i : Nat} {z : α} (h : l[i]? = some z) : l.take i ++ [z] ++ l.drop (i + 1) = l := by
 rw [← take_snoc h, List.take_append_drop]
theorem gap_in {α : Type} {ks js l : List α} {j : Nat} {x : α} (hx : l[j]? = some x) : ks ++ (js ++ [x]) ++ l.drop (j + 1) = ks ++ js ++ l.drop j := by
 obtain ⟨h, rfl⟩ := List.getElem?_eq_some_iff.1 hx
 rw [List.drop_eq_getElem_cons h]; simp
/-- The place k of what was kept, what lies between, and the rest. -/
theorem mid_get {α : Type} {ks js l : List α} {j : Nat} {x : α} (hl : ks.length + js.length = j) (hx : l[j]? = some x) : (ks ++ js ++ l.drop j)[j]? = some x := by
 rw [List.getElem?_append_right (by simp; omega)]
 simp only [List.length_append, hl, Nat.sub_self, List.getElem?_drop, Nat.add_zero]
 exact hx
theorem getM_setM {κ : Type} [DecidableEq κ] (m : List (κ × Value)) (k a : κ) (v : Value) : getM (setM m k v) a = if a = k then some v else getM m a := by
 induction m with
 | nil => simp [setM, getM]
 | cons p m ih =>
  obtain ⟨b, x⟩ := p
  simp only [setM]
  by_cases h : k = b
  ·
   subst h
   rw [if_pos rfl]
   simp only [getM]
   by_cases ha : a = k
   ·
    simp [ha]
   ·
    simp [ha]
  ·
   rw [if_neg h]
   simp only [getM, ih]
   by_cases ha : a = b
   ·
    subst ha; rw [if_pos rfl, if_neg (fun e => h e.symm), if_pos rfl]
   ·
    rw [if_neg ha, if_neg ha]
/-- The fence that lets all by; r: the round in which the frame stands. -/
abbrev FX (r : Option Nat) : Fence := { Fence.wide with round := r }
/-- No way out but by a return, an exit, a panic. -/
class NoOut (Q : Exit → Act → World → Prop) : Prop where
 no : ∀ a w, ¬ Q .outgrown a w
instance noThen {K : Act → World → Prop} {Q : Exit → Act → World → Prop} [i : NoOut Q] : NoOut (Exit.then K Q) := ⟨fun a w h => i.no a w h⟩
instance noBlock {id : Nat} {Q : Exit → Act → World → Prop} [i : NoOut Q] : NoOut (Exit.inBlock id Q) := ⟨fun a w h => i.no a w h⟩
instance noBodyM {F : Fence} {n : Nat} {P : Program} {fn : Func} {R : Value → World → Prop} : NoOut (bodyPostM F n P fn (fun e w' => ∃ v, e = .returned v ∧ R v w')) := ⟨fun a w h => by obtain ⟨v, hv, _⟩ := h; cases hv⟩
instance noRound {P : Program} {l : Nat} {R : Ending → World → Prop} : NoOut (roundPost P l R) := ⟨fun a w h => h⟩
/-- An activation, with deferred calls behind its own. -/
def wD (ds : List Deferred) (a : Act) : Act := { a with defers := a.defers ++ ds }
/-- The post, with deferred calls behind the activation's own. -/
def reD (ds : List Deferred) (Q : Exit → Act → World → Prop) : Exit → Act → World → Prop := fun e a w => Q e (wD ds a) w
theorem no_reD {ds : List Deferred} {Q : Exit → Act → World → Prop} (h : NoOut Q) : ¬ LetsOut (reD ds Q) := fun ⟨a, w, k⟩ => h.no _ w k
def noDefer (o : Oper) : Bool := match o.op with | .defer _ => false | _ => true
theorem noDefer_spec {o : Oper} (h : noDefer o = true) : ∀ c, o.op ≠ .defer c := by
 intro c e
 rw [noDefer, e] at h
 cases h
section
variable {P : Program} {ops : Array Oper} {r : Option Nat} {ds : List Deferred} {Q : Exit → Act → World → Prop}
theorem calls_in {g : FuncId} {args : Array Value} {w : World} {R : Ending → World → Prop} {n : Nat} (h : Calls P g args w R) : CallsIn (FX r) n P g args w R := callsIn_wide.2 h
theorem rows_in {row : String} {args : Array Value} {w : World} {R : Value → World → Prop} {n : Nat} (h : Go.Rows P row args w R) : RowsIn (FX r) n P row args w R := by
 intro c cs _
 obtain ⟨v, w', h1, h2⟩ := h c cs
 exact ⟨v, w', h1, stepsIn_wide.2 h2⟩
theorem wD_put (a : Act) (d : Option Tmp) (v : Value) (ds : List Deferred) : (wD ds a).put d v = wD ds (a.put d v) := by cases d <;> rfl
theorem wD_eval (a : Act) (ds : List Deferred) : (wD ds a).eval = a.eval := by funext x; cases x <;> rfl
theorem oper_up {o : Oper} (hn : noDefer o = true) (hno : ¬ LetsOut (reD ds Q)) {K K' : Act → World → Prop} (hK : ∀ a w, K a w → K' (wD ds a) w) {a : Act} {w : World} (h : o.wp P a w K (reD ds Q)) : o.wpIn (FX r) 0 P (wD ds a) w K' Q := by
 refine ⟨fun _ _ => trivial, ?_⟩
 rw [Oper.semAt_plain (FX r) _ o (noDefer_spec hn), wD_eval]
 unfold Oper.wp at h
 generalize (execOp a.eval o).run P w = res at h ⊢
 cases res with
 | ok x w' =>
  cases x with
  | value v => simp only [Oper.upon, Oper.uponIn, wD_put] at h ⊢; exact hK _ _ h
  | skip => simp only [Oper.upon, Oper.uponIn, wD_put] at h ⊢; exact hK _ _ h
  | defer d =>
   have h2 := hK _ _ h
   rw [← wD_put] at h2
   exact h2
  | enter g args =>
   refine ⟨fun h => (by cases h), CallsIn.mono (calls_in h) ?_⟩
   intro e w'' he
   cases e with
   | returned v => simp only [wD_put]; exact hK _ _ he
   | panicked c => exact he
   | outgrown => exact absurd he hno
  | row row args =>
   refine ⟨fun h => (by cases h), RowsIn.mono (rows_in h) ?_⟩
   intro v w'' he
   simp only [wD_put]; exact hK _ _ he
  | _ => exact h.elim
 | halt x w' => cases x <;> first | exact h | exact h.elim
theorem list_up (hno : ¬ LetsOut (reD ds Q)) : ∀ (l : List Oper) (a : Act) (w : World), l.all noDefer = true → wpList P ops (reD ds Q) l a w → wpListIn (FX r) 0 P ops Q l (wD ds a) w
  | [], _, _, _, h => h
  | o :: rest, a, w, hn, h => by
    rw [List.all_cons, Bool.and_eq_true] at hn
    unfold wpList at h
    unfold wpListIn
    by_cases hw : Region.wanted o (yielded ops a.tmps) = true
    · rw [if_pos hw] at h
      rw [if_pos (show Region.wanted o (yielded ops (wD ds a).tmps) = true from hw)]
      exact oper_up hn.1 hno (fun a w hh => list_up hno rest a w hn.2 hh) (h.resolve_right (fun k => hno k.2))
    · rw [if_neg hw] at h
      rw [if_neg (show ¬ Region.wanted o (yielded ops (wD ds a).tmps) = true from hw)]
      refine ⟨fun _ _ => trivial, ?_⟩
      rw [wD_put]
      exact list_up hno rest _ w hn.2 h
theorem any_up {md : Region.Mode} (hno : ¬ LetsOut (reD ds Q)) (hn : ops.toList.all noDefer = true) : ∀ (fuel : Nat) (listed : Array Bool) (a : Act) (w : World), wpAny P md ops (reD ds Q) fuel listed a w → wpAnyIn (FX r) 0 P md ops Q fuel listed (wD ds a) w
  | 0, _, _, _, h => h
  | fuel + 1, listed, a, w, h => by
    refine ⟨h.1, fun i hi => ?_⟩
    have h1 := h.2 i hi
    unfold wpOp at h1
    unfold wpOpIn
    cases ho : ops[i]? with
    | none => simp only [ho] at h1 ⊢; exact any_up hno hn fuel _ a w h1
    | some o =>
      simp only [ho] at h1 ⊢
      have hno2 : noDefer o = true := List.all_eq_true.1 hn o (List.mem_of_getElem? (by simpa using ho))
      by_cases hw : Region.wanted o (yielded ops a.tmps) = true
      · rw [if_pos hw] at h1
        rw [if_pos (show Region.wanted o (yielded ops (wD ds a).tmps) = true from hw)]
        exact oper_up hno2 hno (fun a w hh => any_up hno hn fuel _ a w hh) (h1.resolve_right (fun k => hno k.2))
      · rw [if_neg hw] at h1
        rw [if_neg (show ¬ Region.wanted o (yielded ops (wD ds a).tmps) = true from hw)]
        refine ⟨fun _ _ => trivial, ?_⟩
        rw [wD_put]
        exact any_up hno hn fuel _ _ w h1
/-- The activation of a frame, with deferred calls. -/
abbrev mkd (n : Nat) (f : Fr) (ds : List Deferred) : Act := wD ds (mk n f)
variable {n : Nat} {f : Fr} {w : World}
theorem regionX {id : Nat} {l : List Oper} [i : NoOut Q] (hn : l.all noDefer = true) (h : wpL P l.toArray (reD ds Q) n l f w) : (Code.region id l.toArray false).wpIn (FX r) 0 P Q (mkd n f ds) w :=
 wpIn_region_lit (list_up (no_reD i) l _ w hn h)
theorem seqX {x y : Code} {a : Act} (h : x.wpIn (FX r) 0 P (Exit.then (y.wpIn (FX r) 0 P Q) Q) a w) : (Code.seq x y).wpIn (FX r) 0 P Q a w := wpIn_seq h
theorem blockX {id : Nat} {c : Code} {a : Act} (h : c.wpIn (FX r) 0 P (Exit.inBlock id Q) a w) : (Code.block id c).wpIn (FX r) 0 P Q a w := wpIn_block h
theorem skipX {a : Act} (h : Q .normal a w) : Code.skip.wpIn (FX r) 0 P Q a w := wpIn_skip h
theorem exitX {id : Nat} {a : Act} (h : Q (.exit id) a w) : (Code.exit id).wpIn (FX r) 0 P Q a w := wpIn_exit h
theorem condX {c : Operand} {x y : Code} {B : Bool} (hc : ev n f c = .bool B) (ht : B = true → x.wpIn (FX r) 0 P Q (mkd n f ds) w) (hf : B = false → y.wpIn (FX r) 0 P Q (mkd n f ds) w) : (Code.cond c x y).wpIn (FX r) 0 P Q (mkd n f ds) w :=
 wpIn_cond_split (t := B) (by rw [wD_eval, mk_eval]; exact hc) ht hf
theorem seqXJ {x y : Code} {a : Act} (I : Fr → World → Prop) (hx : x.wpIn (FX r) 0 P (Exit.then (fun a w => ∃ f, a = mkd n f ds ∧ I f w) Q) a w) (hy : ∀ f w, I f w → y.wpIn (FX r) 0 P Q (mkd n f ds) w) : (Code.seq x y).wpIn (FX r) 0 P Q a w := by
 refine wpIn_seq (wpIn_mono hx ?_)
 intro e a w h
 cases e with
 | normal => obtain ⟨f, rfl, hI⟩ := h; exact hy f w hI
 | _ => exact h
theorem loopX {c : Code} {a : Act} (I : Fr → World → Nat → Prop) (k : Nat) (h0 : ∃ f, a = mkd n f ds ∧ I f w k) (hstep : ∀ f w k, I f w k → c.wpIn (FX r) 0 P (Exit.then (fun a' w' => ∃ f' k', a' = mkd n f' ds ∧ I f' w' k' ∧ k' < k) Q) (mkd n f ds) w) : (Code.loop c).wpIn (FX r) 0 P Q a w := by
 obtain ⟨f, rfl, hI⟩ := h0
 intro b kk cs hro hb hr
 have key : ∀ k f w, I f w k → ∃ e a' w', Q e a' w' ∧ ArrivesIn (Machine.fenced P (FX r)) P (lone (b.atR (mkd n f ds) (.code c :: .inLoop c :: kk)) cs w) b kk cs e a' w' := by
  intro k
  induction k using Nat.strongRecOn with
  | _ k ih =>
   intro f w hI
   obtain ⟨e, a₁, w₁, hq, harr⟩ := hstep f w k hI b (.inLoop c :: kk) cs hro hb hr
   cases e with
   | normal =>
    obtain ⟨f', k', rfl, hI', hlt⟩ := hq
    obtain ⟨e₂, a₂, w₂, hq₂, harr₂⟩ := ih k' hlt f' w₁ hI'
    exact ⟨e₂, a₂, w₂, hq₂, .of_steps (StepsIn.trans harr (.one (fenced_calm hb hr rfl) stepR_inLoop)) harr₂⟩
   | exit id => exact ⟨_, a₁, w₁, hq, .pass (x := .inLoop c) rfl (fun _ _ => .inl (by simp)) harr⟩
   | goto l => exact ⟨_, a₁, w₁, hq, .pass (x := .inLoop c) rfl (fun _ _ => .inl (by simp)) harr⟩
   | ret => exact ⟨_, a₁, w₁, hq, .pass (x := .inLoop c) rfl (fun _ _ => .inl (by simp)) harr⟩
   | panic ch => exact ⟨_, a₁, w₁, hq, .pass (x := .inLoop c) rfl (fun _ _ => .inl (by simp)) harr⟩
   | outgrown => exact ⟨_, a₁, w₁, hq, .pass (x := .inLoop c) rfl (fun _ _ => .inl (by simp)) harr⟩
 obtain ⟨e, a', w', hq, harr⟩ := key k f w hI
 exact ⟨e, a', w', hq, .of_steps (.one (fenced_calm hb hr rfl) stepR_loop) harr⟩
end
theorem StX.perm {S : List Nat} {w0 w : World} {L M : List Item} (h : StX S w0 w L) (hp : L.Perm M) : StX S w0 w M := by
 have hf : (fps L).Perm (fps M) := List.Perm.flatMap_right _ hp
 exact ⟨h.extx, fun it hit => h.ok it (hp.mem_iff.2 hit), fun b hb => h.own b (hf.mem_iff.2 hb), hf.nodup_iff.1 h.apart⟩
section
variable {P : Program} {ops : Array Oper} {r : Option Nat} {ds : List Deferred} {Q : Exit → Act → World → Prop} {n : Nat} {f : Fr} {w : World}
theorem app_in {F : Fence} {m : Nat} {l2 : List Oper} : ∀ (l1 : List Oper) (a : Act) (w : World), wpListIn F m P ops (Exit.then (wpListIn F m P ops Q l2) Q) l1 a w → wpListIn F m P ops Q (l1 ++ l2) a w
  | [], _, _, h => h
  | o :: rest, a, w, h => by
    rw [List.cons_append]
    unfold wpListIn at h ⊢
    by_cases hw : Region.wanted o (yielded ops a.tmps) = true
    · rw [if_pos hw] at h ⊢
      exact Oper.wpIn_mono (Q := Q) (fun a w hh => app_in rest a w hh) h
    · rw [if_neg hw] at h ⊢
      exact ⟨h.1, app_in rest _ w h.2⟩
theorem preX (k : Nat) {l : List Oper} [i : NoOut Q] (hn : (l.take k).all noDefer = true) (h : wpL P ops (reD ds (Exit.then (wpListIn (FX r) 0 P ops Q (l.drop k)) Q)) n (l.take k) f w) : wpListIn (FX r) 0 P ops Q l (mkd n f ds) w := by
 have h2 := app_in (F := FX r) (m := 0) (l.take k) (mkd n f ds) w (list_up (no_reD noThen) (l.take k) _ w hn h)
 rwa [List.take_append_drop] at h2
theorem regionL {id : Nat} {l : List Oper} (h : wpListIn (FX r) 0 P l.toArray Q l (mkd n f ds) w) : (Code.region id l.toArray false).wpIn (FX r) 0 P Q (mkd n f ds) w := wpIn_region_lit h
theorem endX {l : List Oper} [i : NoOut Q] (hn : l.all noDefer = true) (h : wpL P ops (reD ds Q) n l f w) : wpListIn (FX r) 0 P ops Q l (mkd n f ds) w := list_up (no_reD i) l _ w hn h
/-- What a call of yield does. -/
def YieldIn (P : Program) (l : Nat) (vs : List Value) (w : World) (R : Value → World → Prop) : Prop :=
 ∃ fn tmps assign body, (Instr.yield l vs.toArray).run P w = .ok (.round l fn tmps assign body) w ∧ RoundIn (FX none) 0 P l fn tmps assign body w fun e w' => ∃ v, e = .returned v ∧ R v w'
theorem yield_run {ρ : Operand → Value} {ty : TypeId} {fx : Operand} {xs : List Operand} {ts : Array TypeId} {l : Nat} {vs : List Value} {res : Result Next} (hf : ρ fx = .func (.yield l) #[] #[]) (ha : Evs ρ xs vs) (hy : (Instr.yield l vs.toArray).run P w = res) :
    (xop ρ (.call ⟨.value fx, xs.toArray, ts⟩) ty).run P w = res := by
  unfold Evs at ha
  simp only [xop, execOp, resolve, hf, Deferred.ofValue, Sem.run_bind, Sem.run_pure, Result.andThen_ok, invoke, List.map_toArray, ha]
  simpa using hy
variable {rest : List Oper} {d : Nat} {ty : TypeId} {pos : String} {af : Array Edge}
theorem yield_in {fx : Operand} {xs : List Operand} {ts : Array TypeId} {l : Nat} {vs : List Value} {g : Option (Nat × Bool)} {R : Value → World → Prop} {K : Act → World → Prop} (hf : ev n f fx = .func (.yield l) #[] #[]) (ha : Evs (ev n f) xs vs) (hy : YieldIn P l vs w R)
    (h : ∀ v w', R v w' → K (mkd n (upd f d v) ds) w') : (Oper.mk (some d) (.call ⟨.value fx, xs.toArray, ts⟩) ty pos af g).wpIn (FX none) 0 P (mkd n f ds) w K Q := by
  obtain ⟨fn, tmps, assign, body, hr, hR⟩ := hy
  refine ⟨fun _ _ => trivial, ?_⟩
  rw [Oper.semAt_plain (FX none) _ _ (noDefer_spec rfl), wD_eval, mk_eval, execOp_xop, yield_run hf ha hr, Oper.uponIn_round]
  refine ⟨fun h => (by cases h), RoundIn.mono hR ?_⟩
  rintro e w' ⟨v, rfl, hv⟩
  show K ((wD ds (mk n f)).put (some d) v) w'
  rw [wD_put, mk_put]
  exact h v w' hv
theorem yieldU {fx : Operand} {xs : List Operand} {ts : Array TypeId} {l : Nat} {vs : List Value} {R : Value → World → Prop} (hf : ev n f fx = .func (.yield l) #[] #[]) (ha : Evs (ev n f) xs vs) (hy : YieldIn P l vs w R)
    (h : ∀ v w', R v w' → wpListIn (FX none) 0 P ops Q rest (mkd n (upd f d v) ds) w') : wpListIn (FX none) 0 P ops Q (⟨some d, .call ⟨.value fx, xs.toArray, ts⟩, ty, pos, af, none⟩ :: rest) (mkd n f ds) w := by
  unfold wpListIn
  rw [if_pos (by simp [Region.wanted])]
  exact yield_in hf ha hy h
theorem enterX {g : FuncId} {fn : Func} {c : Code} {args : List Value} {R : Value → World → Prop} (hf : P.funcs[g]? = some fn) (hb : fn.body = some c) (hn : fn.ntmps = n) (hl : Nat.ble args.length n = true)
    (h : c.wpIn (FX none) 0 P (bodyPostM (FX none) 0 P fn fun e w' => ∃ v, e = .returned v ∧ R v w') (mkd n (ini args) []) w) : CE P g args.toArray w R := by
  rw [Nat.ble_eq] at hl
  refine callsIn_wide.1 (callsIn_of_wp_marks (F := FX none) (n := 0) hf hb trivial ?_)
  have : ({ tmps := args.toArray ++ Array.replicate (fn.ntmps - args.toArray.size) undef, defers := [] } : Act) = mkd n (ini args) [] := by
    simp only [mkd, wD, mk, Act.mk.injEq, List.append_nil, and_true]
    apply Array.ext_getElem?
    intro t
    rw [hn]
    simp only [Array.getElem?_append, List.size_toArray, List.getElem?_toArray, Array.getElem?_replicate, List.getElem?_map]
    have hi : ini args t = args.getD t undef := rfl
    by_cases h1 : t < args.length
    · simp [h1, hi, show t < n by omega, List.getD]
    · by_cases h2 : t < n
      · simp [h1, h2, hi, List.getD, show t - args.length < n - args.length by omega]
      · simp [h1, h2, show ¬ t - args.length < n - args.length by omega]
  rw [this]
  exact h
/-- The mark of a loop's block. -/
abbrev coll (D : Nat) : Deferred := { target := .collected D, args := #[] }
theorem put_obj {b : Nat} {o o' : Obj} (h : w.heap[b]? = some o) : Put b o' w (w.putObj b o') := by
 have hb := (Array.getElem?_eq_some_iff.1 h).1
 exact ⟨rfl, rfl, rfl, by simp, World.putObj_heap_same hb, fun k hk hn => World.putObj_heap_other hn⟩
theorem leafX {fn : Func} {R : Value → World → Prop} {v : Value} (hr : (results fn (mk n f).tmps).run P w = .ok v w) (h : R v w) : bodyPostM (FX none) 0 P fn (fun e w' => ∃ v, e = .returned v ∧ R v w') .ret (mkd n f []) w :=
 ⟨v, hr, v, rfl, h⟩
theorem leafXN {fn : Func} {R : Value → World → Prop} {v : Value} (hr : (results fn (mk n f).tmps).run P w = .ok v w) (h : R v w) : bodyPostM (FX none) 0 P fn (fun e w' => ∃ v, e = .returned v ∧ R v w') .normal (mkd n f []) w :=
 ⟨v, hr, v, rfl, h⟩
theorem leafD {fn : Func} {S : List Nat} {w0 : World} {L L' : List Item} {D : Nat} {R : Value → World → Prop} {v : Value} (hS : StX S w0 w L) [i : AtB L D (Eq (.deferred (some [])))] [j : SetB L D (Eq (.deferred none)) L']
    (hr : ∀ w', StX S w0 w' L' → (results fn (mk n f).tmps).run P w' = .ok v w') (h : ∀ w', StX S w0 w' L' → R v w') : bodyPostM (FX none) 0 P fn (fun e w' => ∃ v, e = .returned v ∧ R v w') .ret (mkd n f [coll D]) w := by
  have h0 := hS.at D (o := .deferred (some []))
  have hS' : StX S w0 (w.putObj D (.deferred none)) L' := hS.put (put_obj h0)
  exact ⟨by simp, .inl ⟨D, _, rfl, run_takeDeferred h0, v, hr _ hS', v, rfl, h _ hS'⟩⟩
/-- The contract of an iterator: cl are its captured values, R its own parts, xs what it hands over. -/
def ItC {α : Type} (P : Program) (g : FuncId) (cl : List Value) (w0 : World) (R : List Item) (enc : α → List Value) (xs : List α) : Prop :=
 ∀ (l : Nat) (Cb : Bool → List α → List Item → Prop) (w : World) (L : List Item),
  (∀ pre x w L M, (pre ++ [x]) <+: xs → Cb true pre L → StX [] w0 w (M ++ L) → YieldIn P l (enc x) w fun v w' => ∃ b L', v = .bool b ∧ Cb b (pre ++ [x]) L' ∧ StX [] w0 w' (M ++ L')) →
  Cb true [] L → StX [] w0 w (R ++ L) → CE P g (.func (.yield l) #[] #[] :: cl).toArray w fun _ w' => ∃ L', StX [] w0 w' L' ∧ (Cb true xs L' ∨ ∃ pre, Cb false pre L')
/-- How a round may end: off its end, or by a jump. -/
def RPost (w0 : World) (Cb : Option Code → List Item → Prop) (M : List Item) : Exit → Act → World → Prop
 | .normal, _, w => ∃ L, Cb none L ∧ StX [] w0 w (L ++ M)
 | .ret, _, w => ∃ L, Cb (some .ret) L ∧ StX [] w0 w (L ++ M)
 | .exit id, _, w => ∃ L, Cb (some (.exit id)) L ∧ StX [] w0 w (L ++ M)
 | .goto t, _, w => ∃ L, Cb (some (.goto t)) L ∧ StX [] w0 w (L ++ M)
 | .panic _, _, _ => False
 | .outgrown, _, _ => False
instance noRP {w0 : World} {Cb : Option Code → List Item → Prop} {M : List Item} : NoOut (RPost w0 Cb M) := ⟨fun _ _ h => h⟩
/-- How the assignment to the loop's variables ends. -/
def APost (K : Act → World → Prop) : Exit → Act → World → Prop := Exit.then K (fun _ _ _ => False)
instance noAP {K : Act → World → Prop} : NoOut (APost K) := ⟨fun _ _ h => h⟩
def updz : List Nat → List Value → Fr → Fr
 | p :: ps, v :: vs, f => updz ps vs (upd f p v)
 | _, _, f => f
theorem put_tmps (n : Nat) (f : Fr) (d : Nat) (v : Value) : (mk n f).tmps.setIfInBounds d v = (mk n (upd f d v)).tmps := congrArg Act.tmps (mk_put n f d v)
theorem foldl_updz (n : Nat) : ∀ (ps : List Nat) (vs : List Value) (f : Fr), (ps.zip vs).foldl (fun t (p : Nat × Value) => t.setIfInBounds p.1 p.2) (mk n f).tmps = (mk n (updz ps vs f)).tmps
  | [], _, _ => rfl
  | _ :: _, [], _ => rfl
  | p :: ps, v :: vs, f => by
    show (ps.zip vs).foldl _ ((mk n f).tmps.setIfInBounds p v) = _
    rw [put_tmps]
    exact foldl_updz n ps vs (upd f p v)
end
section
variable {P : Program} {Q : Exit → Act → World → Prop} {n : Nat} {f : Fr} {w : World}
theorem perm3 {α : Type} (A B : List α) (x y : α) : (A ++ (x :: y :: B)).Perm (x :: y :: (A ++ B)) :=
 List.perm_middle.trans (List.Perm.cons x List.perm_middle)
theorem rangeX {α : Type} {enc : α → List Value} {xs : List α} {w0 : World} {R L0 : List Item} {g : Operand} {gf : FuncId} {cl : List Value} {ps : List Nat} {assign body : Code} [hnQ : NoOut Q]
    (hg : ev n f g = .func (.func gf) #[] cl.toArray) (eg : ∀ ars w, (callFunc gf ars).run P w = .ok (.enter gf ars) w)
    (hS : StX [] w0 w (R ++ L0)) (hit : ItC P gf cl w0 R enc xs)
    (Cb : Option Code → List α → List Item → Prop) (h0 : Cb none [] L0) (hps : ∀ x ∈ xs, (enc x).length = ps.length)
    (hround : ∀ l pre x w L M, (pre ++ [x]) <+: xs → Cb none pre L → StX [] w0 w (L ++ M) →
      assign.wpIn (FX (some l)) 0 P (APost fun a w₁ => ∃ f' L', a = mkd n f' [] ∧ StX [] w0 w₁ (L' ++ M) ∧ ∀ M' w₂, StX [] w0 w₂ (L' ++ M') → body.wpIn (FX (some l)) 0 P (RPost w0 (fun c => Cb c (pre ++ [x])) M') (mkd n f' []) w₂) (mkd n (updz ps (enc x) f) []) w)
    (hdone : ∀ D w L, Cb none xs L → StX [] w0 w (obj D (.deferred (some [])) :: L) → Q .normal (mkd n f [coll D]) w)
    (hstop : ∀ D w L c pre, Cb (some c) pre L → StX [] w0 w (obj D (.deferred (some [])) :: L) → c.wpIn (FX none) 0 P Q (mkd n f [coll D]) w) :
    (Code.rangeFunc g ps.toArray assign body).wpIn (FX none) 0 P Q (mkd n f []) w := by
  refine wpIn_rangeFunc ?_
  intro fn hfn
  show ∃ _, _
  obtain ⟨rec, hrec⟩ : ∃ rec : LoopState → Option Code → Loop, rec = fun st pe => { state := st, pending := pe, fn, tmps := (mkd n f []).tmps, params := ps.toArray, assign, body, defers := w.heap.size } := ⟨_, rfl⟩
  obtain ⟨W1, hW1⟩ : ∃ W1, (w.alloc (.deferred (some []))).alloc (.loop (rec .ready none)) = W1 := ⟨_, rfl⟩
  obtain ⟨l, hl⟩ : ∃ l, l = w.heap.size + 1 := ⟨_, rfl⟩
  obtain ⟨D, hD⟩ : ∃ D, D = w.heap.size := ⟨_, rfl⟩
  have hS1 : StX [] w0 W1 (obj l (.loop (rec .ready none)) :: obj D (.deferred (some [])) :: (R ++ L0)) := by
    have e1 := hS.call1 (St.new w (.deferred (some [])))
    have e2 := e1.call1 (St.new (w.alloc (.deferred (some []))) (.loop (rec .ready none)))
    rw [World.size_alloc] at e2
    rw [← hW1, hl, hD]
    exact e2
  have hS2 : StX [] w0 W1 (R ++ (obj l (.loop (rec .ready none)) :: obj D (.deferred (some [])) :: L0)) := hS1.perm (perm3 _ _ _ _).symm
  refine ⟨l, [coll D], W1, { target := .fn (.func gf) cl.toArray, args := #[.func (.yield l) #[] #[]] }, W1, gf, (.func (.yield l) #[] #[] :: cl).toArray, W1, ?_, ?_, fun _ _ => trivial, ?_, fun h => (by cases h), ?_⟩
  · rw [← hW1, hrec, hl, hD]
    exact run_enterLoop_outer _ _ _ _ _
  · have hg' : (mkd n f []).eval g = .func (.func gf) #[] cl.toArray := by rw [wD_eval, mk_eval, hg]
    simp only [resolve, hg']
    simp [go_sem]
  · simp only [invoke, eg]
    simp
  · let Cb' : Bool → List α → List Item → Prop := fun b pre LL => ∃ c L, b = c.isNone ∧ LL = obj l (.loop (rec (if c.isNone then .ready else .done) c)) :: obj D (.deferred (some [])) :: L ∧ Cb c pre L
    refine CallsIn.mono (calls_in (hit l Cb' W1 _ ?_ ⟨none, L0, rfl, rfl, h0⟩ hS2)) ?_
    · rintro pre x w L M hpre ⟨c, L, hc, rfl, hcb⟩ hSt
      obtain rfl : c = none := by cases c with | none => rfl | some c => exact absurd hc (by simp)
      have hSt' : StX [] w0 w (obj l (.loop (rec .ready none)) :: obj D (.deferred (some [])) :: (M ++ L)) := hSt.perm (perm3 _ _ _ _)
      have hl0 := hSt'.at l (o := .loop (rec .ready none))
      have hx : x ∈ xs := hpre.subset (by simp)
      have hy := run_yield (P := P) (args := (enc x).toArray) hl0 (by rw [hrec]; simp [hps x hx])
      rw [hrec] at hy
      have ht : (ps.toArray.zip (enc x).toArray).foldl (fun tmps (p : Nat × Value) => tmps.setIfInBounds p.1 p.2) (mkd n f []).tmps = (mk n (updz ps (enc x) f)).tmps := by
        rw [List.zip_toArray, List.foldl_toArray]
        exact foldl_updz n ps (enc x) f
      have ht' : (ps.toArray.zip (enc x).toArray).foldl (fun tmps (t, a) => tmps.setIfInBounds t a) (mkd n f []).tmps = (mk n (updz ps (enc x) f)).tmps := ht
      simp only [ht'] at hy
      refine ⟨fn, _, assign, body, hy, roundIn_of_wpIn hfn ?_⟩
      have hStM : StX [] w0 w (L ++ (obj l (.loop (rec .ready none)) :: obj D (.deferred (some [])) :: M)) := hSt'.perm (((List.perm_append_comm (l₁ := M) (l₂ := L)).cons _).cons _ |>.trans (perm3 _ _ _ _).symm)
      refine wpIn_mono (hround l pre x w L _ hpre hcb hStM) ?_
      intro e a1 w1 hp
      cases e with
      | normal =>
        obtain ⟨f', L', rfl, hS3, hbody⟩ := hp
        have hS3' : StX [] w0 w1 (obj l (.loop (rec .ready none)) :: obj D (.deferred (some [])) :: (L' ++ M)) := hS3.perm (perm3 _ _ _ _)
        have hl1 := hS3'.at l (o := .loop (rec .ready none))
        refine ⟨_, run_beginRound hl1 (by rw [hrec]), ?_⟩
        have hS4 : StX [] w0 (w1.putObj l (.loop { rec .ready none with state := .busy })) (obj l (.loop { rec .ready none with state := .busy }) :: obj D (.deferred (some [])) :: (L' ++ M)) := hS3'.put (put_obj hl1)
        refine wpIn_mono (hbody _ _ (hS4.perm (perm3 _ _ _ _).symm)) ?_
        have fin : ∀ (c : Option Code) (w2 : World) (L2 : List Item), Cb c (pre ++ [x]) L2 → StX [] w0 w2 (L2 ++ (obj l (.loop { rec .ready none with state := .busy }) :: obj D (.deferred (some [])) :: M)) →
            ∃ v w', (Instr.endRound l c).run P w2 = .ok v w' ∧ ∃ u, Ending.returned v = .returned u ∧ ∃ b L', u = .bool b ∧ Cb' b (pre ++ [x]) L' ∧ StX [] w0 w' (M ++ L') := by
          intro c w2 L2 hc2 hS5
          have hS5' := hS5.perm (perm3 _ _ _ _)
          have hl2 := hS5'.at l (o := .loop { rec .ready none with state := .busy })
          have he := run_endRound (P := P) c hl2
          refine ⟨_, _, he, _, rfl, _, _, rfl, ⟨c, L2, rfl, rfl, hc2⟩, ?_⟩
          have hS6 : StX [] w0 (w2.putObj l (.loop { { rec .ready none with state := .busy } with state := if c.isNone then .ready else .done, pending := c })) (obj l (.loop { { rec .ready none with state := .busy } with state := if c.isNone then .ready else .done, pending := c }) :: obj D (.deferred (some [])) :: (L2 ++ M)) := hS5'.put (put_obj hl2)
          have hr : ({ { rec .ready none with state := .busy } with state := if c.isNone then .ready else .done, pending := c } : Loop) = rec (if c.isNone then .ready else .done) c := by rw [hrec]
          rw [hr] at hS6 ⊢
          exact hS6.perm (((List.perm_append_comm (l₁ := L2) (l₂ := M)).cons _).cons _ |>.trans (perm3 _ _ _ _).symm)
        intro e a2 w2 hp2
        cases e with
        | normal => obtain ⟨L2, hc2, hS5⟩ := hp2; exact fin none w2 L2 hc2 hS5
        | ret => obtain ⟨L2, hc2, hS5⟩ := hp2; exact fin _ w2 L2 hc2 hS5
        | exit id => obtain ⟨L2, hc2, hS5⟩ := hp2; exact fin _ w2 L2 hc2 hS5
        | goto t => obtain ⟨L2, hc2, hS5⟩ := hp2; exact fin _ w2 L2 hc2 hS5
        | panic c => exact hp2.elim
        | outgrown => exact hp2.elim
      | _ => exact hp.elim
    · rintro e w3 ⟨v, rfl, LL, hS7, hcb⟩
      have key : ∀ (c : Option Code) (L : List Item), StX [] w0 w3 (obj l (.loop (rec (if c.isNone then .ready else .done) c)) :: obj D (.deferred (some [])) :: L) →
          ∃ w4, (Instr.endLoop l).run P w3 = .ok c w4 ∧ StX [] w0 w4 (obj D (.deferred (some [])) :: L) := by
        intro c L hS8
        have hl3 := hS8.at l (o := .loop (rec (if c.isNone then .ready else .done) c))
        have he := run_endLoop (P := P) hl3 (by rw [hrec]; cases c <;> simp)
        have hp : (rec (if c.isNone then .ready else .done) c).pending = c := by rw [hrec]
        refine ⟨_, he.trans (congrArg (fun p => Result.ok p _) hp), ?_⟩
        have hS9 : StX [] w0 _ (obj l (.loop { rec (if c.isNone then .ready else .done) c with state := .exhausted }) :: obj D (.deferred (some [])) :: L) := hS8.put (put_obj (o' := .loop { rec (if c.isNone then .ready else .done) c with state := .exhausted }) hl3)
        exact hS9.sub (List.sublist_cons_self _ _)
      rcases hcb with ⟨c, L, hc, rfl, hcb⟩ | ⟨pre, c, L, hc, rfl, hcb⟩
      · obtain rfl : c = none := by cases c with | none => rfl | some c => exact absurd hc (by simp)
        obtain ⟨w4, he, hS9⟩ := key none L hS7
        exact ⟨none, w4, he, hdone D w4 L hcb hS9⟩
      · cases c with
        | none => simp at hc
        | some c =>
          obtain ⟨w4, he, hS9⟩ := key (some c) L hS7
          exact ⟨some c, w4, he, hstop D w4 L c pre hcb hS9⟩
variable {r : Option Nat} {ds : List Deferred}
theorem drawX {id : Nat} {l : List Oper} [i : NoOut Q] (hm : P.follows .mixedOrders = true) (hn : l.all noDefer = true) (h : wpAny P .any l.toArray (reD ds Q) l.toArray.size (Array.replicate l.toArray.size false) (mk n f) { w with drawn := w.drawn + 1 }) : (Code.region id l.toArray true).wpIn (FX r) 0 P Q (mkd n f ds) w :=
 wpIn_region_any hm (any_up (no_reD i) (by simpa using hn) _ _ _ _ h)
/-- Without a panic. -/
def noP (Q : Exit → Act → World → Prop) : Exit → Act → World → Prop
 | .panic _, _, _ => False
 | .outgrown, _, _ => False
 | e, a, w => Q e a w
instance noNoP : NoOut (noP Q) := ⟨fun _ _ h => h⟩
theorem region_anyX {C : World → Prop} {S : List Nat} {w0 : World} {L : List Item} {id : Nat} {l : List Oper} (hm : P.follows .mixedOrders = true) (k m : Nat) (hB : (Region.noSelect l.toArray && headB .any l.toArray m k 0 (Array.replicate l.length false) && Nat.ble k l.length) = true) (hn : l.all noDefer = true) (hS : StX S w0 w L) (hC : ∀ w, StX S w0 w L → C w)
    (h : ∀ w, StX S w0 w L → wpHead P l.toArray C (fun a' => wpAC P .any l.toArray (reD ds (noP Q)) C m (l.length - k) (listAt k 0 (Array.replicate l.length false)) a' w) (l.take k) (mk n f)) : (Code.region id l.toArray true).wpIn (FX r) 0 P Q (mkd n f ds) w := by
  refine wpIn_mono (Q := noP Q) ?_ (fun e a w h => by cases e <;> first | exact h | exact h.elim)
  simp only [Bool.and_eq_true, Nat.ble_eq] at hB
  obtain ⟨⟨hs, hh⟩, hk⟩ := hB
  have hlen : (l.take k).length = k := by simp; omega
  have hS' := hS.step (ext_drew w)
  refine drawX hm hn (wpAny_of_AC (C := C) (m := m) _ _ _ _ ?_)
  have := wpAC_head (P := P) (Q := reD ds (noP Q)) (C := C) (m := m) (md := .any) (ops := l.toArray) hs (fun c a a' w h => h) (l.length - k) (hC _ hS') (l.take k) 0 (Array.replicate l.length false) (mk n f) (fun j hj => by rw [hlen] at hj; simp [hj]) (by rw [hlen]; exact hh) (by rw [hlen]; exact h _ hS')
  rw [hlen, show k + (l.length - k) = l.length by omega] at this
  simpa using this
end
theorem splice_take {cs vs : List Value} {o m : Nat} (h : o + vs.length ≤ m) (hm : m ≤ cs.length) : (splice cs o vs).take m = splice (cs.take m) o vs := by
 unfold splice
 have h2 : (cs.take o ++ vs).length = o + vs.length := by simp; omega
 have e : ∀ (A B : List Value), A.length ≤ m → (A ++ B).take m = A ++ B.take (m - A.length) := fun A B h => by rw [List.take_append, List.take_of_length_le h]
 rw [e _ _ (by omega), h2, List.take_take, Nat.min_eq_left (by omega), List.drop_take]
theorem splice_take0 {cs vs : List Value} {o : Nat} (h : o ≤ cs.length) : (splice cs o vs).take o = cs.take o := by
 unfold splice
 rw [List.append_assoc, List.take_append]
 have h1 : (cs.take o).length = o := by simp; omega
 rw [List.take_of_length_le (by omega), h1]
 simp
section
variable {P : Program} {ops : Array Oper} {Q : Exit → Act → World → Prop} {n : Nat} {f : Fr} {w w0 : World} {S : List Nat} {L : List Item} {rest : List Oper} {ty : TypeId} {pos : String} {af : Array Edge} {ρ : Operand → Value}
theorem put_grown {b : Nat} {o : Obj} {w' : World} (h : Put b o w w') : w.grownBy w' (some b) := ⟨h.os, h.tape, h.output, h.size, fun k hk hne => h.other k hk (fun e => hne (by rw [e]))⟩
/-- A store into a row. -/
theorem srst {T E : TypeId} {xa x : Operand} {g o k cap m sz : Nat} {v : Value} {xs vs : List Value} {Lf : Item → List Item} (hS : StX S w0 w L) (hp : ev n f xa = .pointer (some ⟨g, o, none⟩)) (hx : ev n f x = v) (hs : ∀ w, (Go.sizeOf T).run P w = .ok k w) (hv : v.cells.toList = vs) (hk : vs.length = k)
    [i : AtR L (.slice (some ⟨g, 0, none⟩) m cap) E sz m xs] (ho : o + k ≤ m * sz) (h1 : vs.all (·.oneCell') = true) [j : SetR L (.slice (some ⟨g, 0, none⟩) m cap) Lf]
    (h : ∀ w', StX S w0 w' (Lf (rowI (.slice (some ⟨g, 0, none⟩) m cap) E sz m (splice xs o vs))) → wpL P ops Q n rest f w') : wpL P ops Q n (⟨none, .store T xa x, ty, pos, af, none⟩ :: rest) f w := by
  have hr := hS.row (.slice (some ⟨g, 0, none⟩) m cap)
  obtain ⟨hxl, hr2⟩ := id hr
  rcases hr2 with ⟨e, _⟩ | ⟨g', cap', cur, e, -, hg, hnc, hcm, hcs, ht⟩
  · cases e
  · obtain ⟨e1, rfl⟩ := slice_inj e.symm
    cases e1
    have hle : m * sz ≤ cap * sz := Nat.mul_le_mul_right _ hnc
    have hcl : cur.toList.length = cap * sz := by simpa using hcs
    obtain ⟨w', hrun, hq⟩ := run_store_at (ty := ty) (cs := cur.toList) (t := E) hp hx hs (by simpa using hg) hv hk (by rw [Nat.ble_eq, hcl]; omega) h1
    refine wpL_skip hrun (h w' (hS.app (v := .slice (some ⟨g, 0, none⟩) m cap) (v' := .slice (some ⟨g, 0, none⟩) m cap) ⟨?_, .inr ⟨g, cap, (splice cur.toList o vs).toArray, rfl, Nat.zero_le _, hq.here, hnc, hcm, ?_, ?_⟩⟩ (put_grown hq) (.inl rfl)))
    · rw [splice_len _ _ _ (by rw [hxl, hk]; exact ho), hxl]
    · rw [List.size_toArray, splice_len _ _ _ (by rw [hcl, hk]; omega), hcl]
    · rw [List.toList_toArray, splice_take (by rw [hk]; exact ho) (by rw [hcl]; exact hle), ht]
/-- The end of a slice, behind its first i. -/
def tailV (g cap i k m : Nat) : Value := .slice (if cap = i then some ⟨g, 0, none⟩ else some ⟨g, i * k, none⟩) (m - i) (cap - i)
theorem yTail {T E : TypeId} {x xi : Operand} {g cap i k m : Nat} {kd : IntKind} (hx : ρ x = .slice (some ⟨g, 0, none⟩) m cap) (hi : ρ xi = .int kd (i : Int)) (hu : P.underlying T = some (.slice E)) (hs : ∀ w, (Go.sizeOf E).run P w = .ok k w) (hm : i ≤ m) :
    Y P ρ (.slice T x (some xi) none none) ty w (tailV g cap i k m) w := by
  have hb : (0 : Int) ≤ (i : Int) ∧ (i : Int) ≤ (m : Int) := ⟨by omega, by omega⟩
  have h1 : (⟨g, 0, none⟩ : Addr).add (i * k) = ⟨g, i * k, none⟩ := by rw [addr_add]; simp
  simp only [Y, xop, execOp, Option.map_some, Option.map_none, hx, hi, Instr.sliceAt, run_underlying hu, Sem.run_bind, Result.andThen_ok, Instr.slice, Instr.sliceBounds, Instr.sliceBound, asIntOf, Sem.run_pure, Sem.run_ite, hb, and_self, if_true, hs, Int.toNat_natCast, tailV, h1]
theorem yHead {T E : TypeId} {x xi : Operand} {a : Option Addr} {cap i k m : Nat} {kd : IntKind} (ha : ∃ g, a = some ⟨g, 0, none⟩) (hx : ρ x = .slice a m cap) (hi : ρ xi = .int kd (i : Int)) (hu : P.underlying T = some (.slice E)) (hs : ∀ w, (Go.sizeOf E).run P w = .ok k w) (hm : i ≤ cap) :
    Y P ρ (.slice T x none (some xi) none) ty w (.slice a i cap) w := by
  obtain ⟨g, rfl⟩ := ha
  have hb : (0 : Int) ≤ (i : Int) ∧ (i : Int) ≤ (cap : Int) := ⟨by omega, by omega⟩
  have h1 : (⟨g, 0, none⟩ : Addr).add (0 * k) = ⟨g, 0, none⟩ := by rw [addr_add]; simp
  simp only [Y, xop, execOp, Option.map_some, Option.map_none, hx, hi, Instr.sliceAt, run_underlying hu, Sem.run_bind, Result.andThen_ok, Instr.slice, Instr.sliceBounds, Instr.sliceBound, asIntOf, Sem.run_pure, Sem.run_ite, hb, and_self, if_true, hs, Int.toNat_natCast, h1, Nat.sub_zero]
  by_cases hc : cap = 0 <;> simp [hc]
/-- The end of a row is cleared: what is left is its first i. -/
theorem sclear {T E : TypeId} {x : Operand} {g cap i k m : Nat} {z : Value} {xs : List Value} {Lf : Item → List Item} (hS : StX S w0 w L) (hx : ev n f x = tailV g cap i k m) (hu : P.underlying T = some (.slice E)) (hz : ∀ w, (zeroValue E).run P w = .ok z w) (hzs : z.cells.size = k) (hz1 : ∀ v ∈ z.cells.toList, v.oneCell' = true) (hk0 : 0 < k) (hm : i ≤ m)
    [ir : AtR L (.slice (some ⟨g, 0, none⟩) m cap) E k m xs] [j : SetR L (.slice (some ⟨g, 0, none⟩) m cap) Lf]
    (h : ∀ w', StX S w0 w' (Lf (rowI (.slice (some ⟨g, 0, none⟩) i cap) E k i (xs.take (i * k)))) → wpL P ops Q n rest f w') : wpL P ops Q n (⟨none, .call ⟨.builtin .clear, #[x], #[T]⟩, ty, pos, af, none⟩ :: rest) f w := by
  have hr := hS.row (.slice (some ⟨g, 0, none⟩) m cap)
  obtain ⟨hxl, hr2⟩ := id hr
  rcases hr2 with ⟨e, _⟩ | ⟨g', cap', cur, e, -, hg, hnc, hcm, hcs, ht⟩
  · cases e
  obtain ⟨e1, rfl⟩ := slice_inj e.symm
  cases e1
  have hle : m * k ≤ cap * k := Nat.mul_le_mul_right _ hnc
  have hik : i * k ≤ m * k := Nat.mul_le_mul_right _ hm
  have hcl : cur.toList.length = cap * k := by simpa using hcs
  have key : ∃ w', (xop (ev n f) (.call ⟨.builtin .clear, #[x], #[T]⟩) ty).run P w = .ok (.value (.tuple #[])) w' ∧ w.grownBy w' (some g) ∧ ∃ cur' : Array Value, w'.heap[g]? = some (.cells cur' E (0, 0)) ∧ cur'.size = cap * k ∧ cur'.toList.take (i * k) = cur.toList.take (i * k) := by
    by_cases hi : m = i
    · subst hi
      refine ⟨w, ?_, ⟨rfl, rfl, rfl, Nat.le_refl _, fun _ _ _ => rfl⟩, cur, hg, hcs, rfl⟩
      obtain ⟨aa, hx2⟩ : ∃ aa, ev n f x = .slice (some aa) 0 (cap - m) := by
        rw [hx, tailV, Nat.sub_self]
        by_cases hc : cap = m
        · rw [if_pos hc]; exact ⟨_, rfl⟩
        · rw [if_neg hc]; exact ⟨_, rfl⟩
      simp [xop, execOp, resolve, hx2, Builtin.clear_, run_underlying hu, invoke, builtin, go_sem]
    · have hc : ¬ cap = i := by omega
      obtain ⟨q, hq0⟩ : ∃ q, m - i = q + 1 := ⟨m - i - 1, by omega⟩
      have hzl : (Builtin.zeroCells z.cells (m - i)).toList.length = (m - i) * k := by simp [Builtin.zeroCells, hzs]
      have hsum : i * k + (m - i) * k = m * k := by rw [← Nat.add_mul]; congr 1; omega
      obtain ⟨w', hrun, hq⟩ := run_storeAt (P := P) (b := g) (t := E) (Builtin.zeroCells z.cells (m - i)).toList (i * k) 0 cur.toList w (by simpa using hg) (by rw [hzl, hcl]; omega) (by
        intro v hv
        simp only [Builtin.zeroCells, Array.toList_map, List.mem_map] at hv
        obtain ⟨t, _, rfl⟩ := hv
        have ht : t % z.cells.size < z.cells.size := Nat.mod_lt _ (by omega)
        have e9 : z.cells[t % z.cells.size]! = z.cells[t % z.cells.size] := getElem!_pos z.cells _ ht
        rw [e9]
        exact hz1 _ (by simp))
      refine ⟨w', ?_, put_grown hq, (splice cur.toList (i * k + 0) (Builtin.zeroCells z.cells (m - i)).toList).toArray, hq.here, ?_, ?_⟩
      · rw [hq0] at hrun
        have hx2 : ev n f x = .slice (some ⟨g, i * k, none⟩) (q + 1) (cap - i) := by rw [hx, tailV, if_neg hc, hq0]
        simp [xop, execOp, resolve, hx2, Builtin.clear_, run_underlying hu, invoke, builtin, hz, hrun, Deferred.ofValue]
      · rw [List.size_toArray, splice_len _ _ _ (by rw [hzl, hcl]; omega), hcl]
      · rw [List.toList_toArray, Nat.add_zero, splice_take0 (by rw [hcl]; omega)]
  obtain ⟨w', hrun, hG, cur', hg', hcs', ht'⟩ := key
  have hfin := h w' (hS.app (v := .slice (some ⟨g, 0, none⟩) m cap) (v' := .slice (some ⟨g, 0, none⟩) i cap) ⟨by rw [List.length_take, hxl]; omega, .inr ⟨g, cap, cur', rfl, Nat.zero_le _, hg', by omega, hcm, hcs', by rw [ht', ← ht, List.take_take, Nat.min_eq_left hik]⟩⟩ hG (.inl rfl))
  refine wpL_run rfl ?_
  unfold Oper.wp
  rw [mk_eval, execOp_xop, hrun]
  exact hfin
end
section
variable {P : Program} {ops : Array Oper} {Q : Exit → Act → World → Prop} {C : World → Prop} {m : Nat} {nf : Nat} {f : Fr} {w : World}
def goB (ops : Array Oper) (m : Nat) (listed : Array Bool) (k : Nat) : Bool :=
 Region.noSelect ops && (Region.ready .any ops listed).contains k && Region.free .any ops listed k && ((List.range ops.size).all fun j => Nat.blt j m || Region.waitsFor .any ops j k)
/-- A free operation is taken first. -/
theorem f_step {fuel : Nat} {listed : Array Bool} {d : Nat} {op : Op} {ty : TypeId} {pos : String} {af : Array Edge} {v : Value} (k : Nat) (hB : goB ops m listed k = true) (hi : ops[k]? = some ⟨some d, op, ty, pos, af, none⟩) (hQ : ∀ c a a' w, Q (.panic c) a w → Q (.panic c) a' w) (hC : C w)
    (hr : ∀ w, C w → Y P (ev nf f) op ty w v w) (h : wpA P ops Q C m fuel (listed.setIfInBounds k true) nf (upd f d v) w) : wpA P ops Q C m (fuel + 1) listed nf f w := by
  simp only [goB, Bool.and_eq_true] at hB
  obtain ⟨⟨⟨hs, hrd⟩, hfr⟩, hlate⟩ := hB
  refine wpAC_first (v := v) hi (Region.noSelect_spec hs) hQ ?_ fuel listed (mk nf f) w hC (Region.free_spec hi hfr) (by simpa using hrd) (.inl ⟨by simp [Region.wanted], fun w hC => ?_⟩) ?_
  · intro j oj hoj hm
    have h1 := List.all_eq_true.1 hlate j (List.mem_range.2 (Array.getElem?_eq_some_iff.1 hoj).1)
    simp only [Bool.or_eq_true, Nat.blt_eq] at h1
    obtain ⟨oj', hoj', e, he, hb, hon⟩ := Region.waitsFor_spec (h1.resolve_left (by omega))
    rw [hoj] at hoj'
    obtain rfl := Option.some.inj hoj'
    exact ⟨e, he, hb, hon⟩
  · rw [mk_eval, execOp_xop, hr w hC]
  · show wpAC P .any ops Q C m fuel (listed.setIfInBounds k true) ((mk nf f).put (some d) v) w
    rw [mk_put]
    exact h
/-- A statement that draws its order, from the start. -/
theorem region_mix {S : List Nat} {w0 : World} {L : List Item} {id : Nat} {l : List Oper} (C : World → Prop) (m : Nat) (hm : P.follows .mixedOrders = true) (hS : StX S w0 w L)
    (h : ∀ w, StX S w0 w L → wpA P l.toArray Q C m l.length (Array.replicate l.length false) nf f w) : (Code.region id l.toArray true).wp P Q (mk nf f) w := by
  refine wp_region_any hm (wpAny_of_AC (C := C) (m := m) _ _ _ _ ?_)
  have := h _ (hS.step (ext_drew w))
  simpa [wpA] using this
end
section
variable {P : Program} {ρ : Operand → Value} {w : World} {ty : TypeId}
/-- A slice from its first k-th part on, shorter than its room. -/
theorem yFrom {T E : TypeId} {x xi : Operand} {b o cap i k m : Nat} {kd : IntKind} (hx : ρ x = .slice (some ⟨b, o, none⟩) m cap) (hi : ρ xi = .int kd (i : Int)) (hu : P.underlying T = some (.slice E)) (hs : ∀ w, (Go.sizeOf E).run P w = .ok k w) (hm : i ≤ m) (hc : i < cap) :
    Y P ρ (.slice T x (some xi) none none) ty w (.slice (some ⟨b, o + i * k, none⟩) (m - i) (cap - i)) w := by
  have hb : (0 : Int) ≤ (i : Int) ∧ (i : Int) ≤ (m : Int) := ⟨by omega, by omega⟩
  have h1 : (⟨b, o, none⟩ : Addr).add (i * k) = ⟨b, o + i * k, none⟩ := addr_add ..
  have h2 : ¬ cap = i := by omega
  simp only [Y, xop, execOp, Option.map_some, Option.map_none, hx, hi, Instr.sliceAt, run_underlying hu, Sem.run_bind, Result.andThen_ok, Instr.slice, Instr.sliceBounds, Instr.sliceBound, asIntOf, Sem.run_pure, Sem.run_ite, hb, and_self, if_true, hs, Int.toNat_natCast, h1, h2, if_false]
end
theorem Cells.append {w : World} {b o : Nat} {xs ys : List Value} (h : Cells w b o xs) (k : Cells w b (o + xs.length) ys) : Cells w b o (xs ++ ys) := by
 intro j v hv
 by_cases hj : j < xs.length
 ·
  rw [List.getElem?_append_left hj] at hv; exact h j v hv
 ·
  rw [List.getElem?_append_right (by omega)] at hv
  have := k _ v hv
  rwa [show o + xs.length + (j - xs.length) = o + j by omega] at this
theorem Rows.flen {α : Type} {w : World} {k : Nat} {R : World → List Value → α → Prop} : ∀ {css : List (List Value)} {l : List α}, Bx.Rows w k R css l → css.flatten.length = l.length * k
  | [], [], _ => by simp
  | cs :: css, x :: l, ⟨h1, _, h3⟩ => by
    rw [List.flatten_cons, List.length_append, h1, Rows.flen h3, List.length_cons, Nat.succ_mul]; omega
section
variable {P : Program} {ops : Array Oper} {Q : Exit → Act → World → Prop} {n : Nat} {f : Fr} {S : List Nat} {w0 w : World} {L : List Item} {rest : List Oper} {d : Nat} {ty : TypeId} {pos : String} {af : Array Edge}
end
section
variable {P : Program} {ops : Array Oper} {Q : Exit → Act → World → Prop} {n : Nat} {f : Fr} {w : World} {rest : List Oper} {dst : Option Nat} {ty : TypeId} {pos : String} {af : Array Edge}
/-- A guarded operation whose guard is known to say yes. -/
theorem ungo {op : Op} {j dj : Nat} {want : Bool} (hd : dstOf ops j = some dj) (hn : Nat.blt dj n = true) (hb : f dj = .bool want) (h : wpL P ops Q n (⟨dst, op, ty, pos, af, none⟩ :: rest) f w) : wpL P ops Q n (⟨dst, op, ty, pos, af, some (j, want)⟩ :: rest) f w := by
 rw [Nat.blt_eq] at hn
 unfold wpL wpList at h ⊢
 rw [if_pos (by simp [Region.wanted])] at h
 rw [if_pos (by simp [Region.wanted, yielded_eq (f := f) hd hn, hb])]
 rcases h with h | h
 ·
  left
  unfold Oper.wp at h ⊢
  rw [execOp_xop] at h ⊢
  exact h
 ·
  right
  refine ⟨?_, h.2⟩
  have := h.1
  unfold Oper.asks at this ⊢
  rw [execOp_xop] at this ⊢
  exact this
end
def Kn (f : Fr) : List (Nat × Value) → Prop
 | [] => True
 | (t, v) :: l => f t = v ∧ Kn f l
theorem Kn.nil {f : Fr} : Kn f [] := trivial
theorem Kn.cons {f : Fr} {t : Nat} {v : Value} {l : List (Nat × Value)} (h : f t = v) (k : Kn f l) : Kn f ((t, v) :: l) := ⟨h, k⟩
theorem cutC {P : Program} {Q : Exit → Act → World → Prop} {n : Nat} {f : Fr} {w : World} {c : Code} {l : List (Nat × Value)} (hk : Kn f l) (h : ∀ f, Kn f l → c.wp P Q (mk n f) w) : c.wp P Q (mk n f) w := h f hk
/-- What was written last; what was written before. -/
theorem uh {f : Fr} {d : Nat} {v : Value} : upd f d v d = v := upd_same f d v
theorem us {f : Fr} {d t : Nat} {u v : Value} (h : Nat.beq t d = false) (k : f t = v) : upd f d u t = v := by
 simp only [upd, h, cond_false]; exact k
section
variable {P : Program} {ops : Array Oper} {ds : List Deferred} {Q : Exit → Act → World → Prop}
end
section
variable {P : Program} {ops : Array Oper} {Q : Exit → Act → World → Prop} {n : Nat} {f : Fr} {w : World} {ds : List Deferred} {rest : List Oper} {ty : TypeId} {pos : String} {af : Array Edge}
end
section
variable {P : Program} {ops : Array Oper} {ds : List Deferred} {Q : Exit → Act → World → Prop}
end
section
variable {P : Program} {ops : Array Oper} {Q : Exit → Act → World → Prop} {n : Nat} {f : Fr} {w : World} {ds : List Deferred} {rest : List Oper} {ty : TypeId} {pos : String} {af : Array Edge}
theorem ini_get {l : List Value} {t : Nat} {v : Value} (h : l[t]? = some v) : ini l t = v := by simp [ini, List.getD, h]
end
section
variable {P : Program} {ops : Array Oper} {Q : Exit → Act → World → Prop} {n : Nat} {f : Fr} {w w0 : World} {S : List Nat} {L L' : List Item} {rest : List Oper} {d : Nat} {ty : TypeId} {pos : String} {af : Array Edge} {ρ : Operand → Value}
/-- Two numbers of a kind, by what the model says of them. -/
theorem yBin {b : BinOp} {x y : Operand} {k k' : IntKind} {p q : Int} {v : Value} {t t' : TypeId} (hx : ρ x = .int k p) (hy : ρ y = .int k' q) (hb : (!(b matches .eql | .neq)) = true) (h : ∀ w, (Go.binOp b t (.int k p) (.int k' q)).run P w = .ok v w) : Y P ρ (.binOp b t x y t') ty w v w := by
 simp only [Y, xop, execOp, hx, hy, eqGuard, hb, if_true, Sem.run_bind, Sem.run_pure, Result.andThen_ok, h, ite_self]
theorem yU {x y : Operand} {b : BinOp} {p q r : Int} {t t' : TypeId} (hx : ρ x = .int .u64 p) (hy : ρ y = .int .u64 q) (hb : b = .add ∧ r = p + q ∨ b = .mul ∧ r = p * q) (hr : 0 ≤ r ∧ r ≤ 18446744073709551615) : Y P ρ (.binOp b t x y t') ty w (.int .u64 r) w := by
 rcases hb with ⟨rfl, rfl⟩ | ⟨rfl, rfl⟩
 ·
  exact Y.to (yAddW hx hy) (by rw [IntWalk.u64_in _ hr])
 ·
  exact Y.to (yMulW hx hy) (by rw [IntWalk.u64_in _ hr])
end
section
variable {P : Program} {ρ : Operand → Value} {w : World} {ty : TypeId}
/-- The first i parts of a slice. -/
theorem yTo {T E : TypeId} {x xi : Operand} {a : Option Addr} {cap i k m : Nat} {kd : IntKind} (hx : ρ x = .slice a m cap) (hi : ρ xi = .int kd (i : Int)) (hu : P.underlying T = some (.slice E)) (hs : ∀ w, (Go.sizeOf E).run P w = .ok k w) (hm : i ≤ cap) :
    Y P ρ (.slice T x none (some xi) none) ty w (.slice a i cap) w := by
  have hb : (0 : Int) ≤ (i : Int) ∧ (i : Int) ≤ (cap : Int) := ⟨by omega, by omega⟩
  have h1 : (if cap = 0 then a else a.map (·.add (0 * k))) = a := by
    cases a with
    | none => simp
    | some ad => simp [Addr.add]
  simp only [Y, xop, execOp, Option.map_some, Option.map_none, hx, hi, Instr.sliceAt, run_underlying hu, Sem.run_bind, Result.andThen_ok, Instr.slice, Instr.sliceBounds, Instr.sliceBound, asIntOf, Sem.run_pure, Sem.run_ite, hb, and_self, if_true, hs, Int.toNat_natCast, h1, Nat.sub_zero]
end
theorem Sl.take {α : Type} {w : World} {k : Nat} {R : World → List Value → α → Prop} {a : Option Addr} {n cap i : Nat} {l : List α} (h : Sl w k R (.slice a n cap) l) (hi : i ≤ n) : Sl w k R (.slice a i cap) (l.take i) := by
 obtain ⟨a', cap', hv, h1, h2, h3⟩ := h
 simp only [Value.slice.injEq] at hv
 obtain ⟨rfl, rfl, rfl⟩ := hv
 have hl : (l.take i).length = i := by rw [List.length_take]; omega
 refine ⟨a, cap, by rw [hl], by omega, h2, fun j hj => ?_⟩
 have hj' : j < l.length := by omega
 obtain ⟨b, o, cs, ha, hlc, hc, hr⟩ := h3 j hj'
 exact ⟨b, o, cs, ha, hlc, hc, by rw [List.getElem_take]; exact hr⟩
theorem Sl.len {α : Type} {w : World} {k : Nat} {R : World → List Value → α → Prop} {a : Option Addr} {n cap : Nat} {l : List α} (h : Sl w k R (.slice a n cap) l) : l.length = n := by
 obtain ⟨a', cap', hv, h1, h2, h3⟩ := h
 simp only [Value.slice.injEq] at hv
 exact hv.2.1.symm
/-- Several parts as one. -/
def packI (L : List Item) : Item where
 fp := fps L
 ok := fun w => ∀ it ∈ L, it.ok w
 loc := fun w w' h hw it hi => it.loc w w' (fun b hb => h b (List.mem_flatMap.2 ⟨it, hi, hb⟩)) (hw it hi)
 here := fun w hw b hb => by
  obtain ⟨it, hi, hb⟩ := List.mem_flatMap.1 hb
  exact it.here w (hw it hi) b hb
theorem fps_app (L M : List Item) : fps (L ++ M) = fps L ++ fps M := by simp [fps]
theorem fps_pack (M L : List Item) : fps (packI M :: L) = fps (M ++ L) := by rw [fps_app]; rfl
theorem StX.pack {S : List Nat} {w0 w : World} {M L : List Item} (h : StX S w0 w (M ++ L)) : StX S w0 w (packI M :: L) :=
 ⟨h.extx, fun it hi => by
  rcases List.mem_cons.1 hi with rfl | hi
  ·
   exact fun j hj => h.ok j (List.mem_append_left _ hj)
  ·
   exact h.ok it (List.mem_append_right _ hi), by rw [fps_pack]; exact h.own, by rw [fps_pack]; exact h.apart⟩
theorem StX.unpack {S : List Nat} {w0 w : World} {M L : List Item} (h : StX S w0 w (packI M :: L)) : StX S w0 w (M ++ L) := by
 have h2 := h.own
 have h3 := h.apart
 rw [fps_pack] at h2 h3
 exact ⟨h.extx, fun it hi => by
  rcases List.mem_append.1 hi with hi | hi
  ·
   exact h.ok (packI M) (List.mem_cons_self ..) it hi
  ·
   exact h.ok it (List.mem_cons_of_mem _ hi), h2, h3⟩
/-- One part more is packed. -/
theorem StX.packs {S : List Nat} {w0 w : World} {M L : List Item} {x : Item} (h : StX S w0 w (x :: packI M :: L)) : StX S w0 w (packI (M ++ [x]) :: L) := by
 have h1 : StX S w0 w (packI M :: x :: L) := h.perm (.swap _ _ _)
 have h2 : StX S w0 w ((M ++ [x]) ++ L) := by rw [List.append_assoc]; exact h1.unpack
 exact h2.pack
/-- What holds of a packed part. -/
theorem StX.inpack {S : List Nat} {w0 w : World} {M L : List Item} (h : StX S w0 w L) (hp : packI M ∈ L) {it : Item} (hi : it ∈ M) : it.ok w := h.ok _ hp it hi
section
variable {P : Program} {ρ : Operand → Value} {w : World} {ty : TypeId}
end
theorem Rows.set {α : Type} {w : World} {k : Nat} {R : World → List Value → α → Prop} {cs : List Value} {y : α} (h1 : cs.length = k) (h2 : R w cs y) : ∀ {css : List (List Value)} {l : List α} (i : Nat), Bx.Rows w k R css l → Bx.Rows w k R (css.set i cs) (l.set i y)
 | [], [], _, _ => trivial
 | c :: css, x :: l, 0, ⟨_, _, h⟩ => ⟨h1, h2, h⟩
 | c :: css, x :: l, i + 1, ⟨a, b, h⟩ => ⟨a, b, Rows.set h1 h2 i h⟩
 | [], _ :: _, _, h => h.elim
 | _ :: _, [], _, h => h.elim
section
variable {P : Program} {ops : Array Oper} {Q : Exit → Act → World → Prop} {n : Nat} {f : Fr} {S : List Nat} {w0 w w' : World} {L : List Item} {rest : List Oper} {d : Nat} {ty : TypeId} {pos : String} {af : Array Edge}
end
theorem flat_len {α : Type} {enc : α → List Value} {k : Nat} (hk : ∀ x, (enc x).length = k) : ∀ l : List α, (l.flatMap enc).length = l.length * k
 | [] => by simp
 | x :: l => by rw [List.flatMap_cons, List.length_append, hk, flat_len hk l, List.length_cons, Nat.succ_mul]; omega
section
variable {P : Program} {ρ : Operand → Value} {w : World} {ty : TypeId}
end
section
variable {P : Program} {ops : Array Oper} {Q : Exit → Act → World → Prop} {n : Nat} {f : Fr} {S : List Nat} {w0 w w' : World} {L : List Item} {rest : List Oper} {d : Nat} {ty : TypeId} {pos : String} {af : Array Edge}
variable {L' : List Item} {κ : Type} [DecidableEq κ]
end
section
variable {P : Program} {ρ : Operand → Value} {w : World} {ty : TypeId}
end
def WOk {H : Type} (P : Program) (t : TypeId) (d : DataW H) : Prop := ∀ n ∈ d.weights P t, n ≤ 140737488351232
def RdW {α : Type} (P : Program) (t : TypeId) (R : World → List Value → α → Prop) : Prop :=
 ∀ (H : Type) (enc : TypeId × Value → H) (w : World) (base : Nat) (spare : Nat → Bool) (held : Bool) (fuel : Nat) (cs : List Value) (x : DataW H × List MemPlace), DataW.trod enc P w base spare held fuel t cs = some x → WOk P t x.1 → ∃ a, R w cs a
theorem Rd.w {α : Type} {P : Program} {t : TypeId} {R : World → List Value → α → Prop} (h : Rd P t R) : RdW P t R := fun H enc w base spare held fuel cs x hx _ => h H enc w base spare held fuel cs x hx
section
variable {P : Program} {t e : TypeId}
theorem weightsAll_mem {H : Type} {P : Program} {e : TypeId} : ∀ {l : List (DataW H)} {d : DataW H}, d ∈ l → ∀ n ∈ d.weights P e, n ∈ DataW.weightsAll P e l
  | a :: l, d, hd, n, hn => by
    unfold DataW.weightsAll
    rcases List.mem_cons.1 hd with rfl | hd
    · exact List.mem_append_left _ hn
    · exact List.mem_append_right _ (weightsAll_mem hd n hn)
theorem rdw_slice {α : Type} {R : World → List Value → α → Prop} {k bytes : Nat} (hR : RdW P e R) (hk : P.cellsOf e = k) (h0 : 0 < k) (ht : P.underlying t = some (.slice e)) (hb : P.bytesOf e = bytes) : RdW P t (fun w cs (l : List α) => ∃ v, cs = [v] ∧ Sl w k R v l ∧ l.length * bytes ≤ 140737488351232) := by
 intro H enc w base spare held fuel cs x h hW
 rcases Deep.open_slice ht h with ⟨rfl, _⟩ | ⟨a, len, cap, m, n, D, Pl, rfl, _, hl, hm, hmm, rfl, hx⟩
 ·
  exact ⟨[], _, rfl, Sl.nil, by simp⟩
 ·
  have hlm : len ≤ m := by rw [hmm]; split <;> omega
  rw [hk] at hx
  unfold WOk at hW
  simp only [DataW.weights, ht] at hW
  have hbd := hW _ (List.mem_cons_self ..)
  have hel : ∀ i, i < len → WOk P e (D i) := fun i hi n hn => hW n (List.mem_cons_of_mem _ (List.mem_append_left _ (weightsAll_mem (List.mem_map.2 ⟨i, List.mem_range.2 hi, rfl⟩) n hn)))
  obtain ⟨l, hll, hp⟩ := list_of (p := fun i x => ∃ cs, w.cells? base (a.add (i * k)) k = some cs ∧ R w cs x) len (fun i hi => by
   obtain ⟨cs, h1, h2⟩ := hx i (by omega)
   obtain ⟨y, hy⟩ := hR H enc w base spare held n cs _ h2 (hel i hi)
   exact ⟨y, cs, h1, hy⟩)
  refine ⟨l, _, rfl, ⟨some a, cap, by rw [hll], by omega, by simp only [maxLen] at hm; omega, fun i hi => ?_⟩, ?_⟩
  ·
   obtain ⟨cs, h1, h2⟩ := hp i hi
   obtain ⟨cs0, h01, _⟩ := hp 0 (by omega)
   obtain ⟨_, hl0, hc0⟩ := World.cells?_some h01
   have ha := addr_of ((hc0 0 h0).trans (List.getElem?_eq_getElem (by omega)))
   obtain ⟨_, hlc, hc⟩ := World.cells?_some h1
   obtain ⟨b, o, s⟩ := a
   have hs : s = none := by
    have : (0 : Nat) * k = 0 := Nat.zero_mul k
    simp only [this, Addr.add, if_true] at ha
    simpa using ha
   subst hs
   refine ⟨b, o, cs, rfl, hlc, fun j v hv => ?_, h2⟩
   have hj : j < k := by have := (List.getElem?_eq_some_iff.1 hv).1; omega
   have := (hc j hj).trans hv
   rwa [addr_add, addr_add] at this
  ·
   rw [hll, ← hb]
   refine Nat.le_trans ?_ hbd
   exact Nat.mul_le_mul_right _ (by simp)
theorem rdw_fields {H : Type} {enc : TypeId × Value → H} {w : World} {base : Nat} {spare : Nat → Bool} {held : Bool} {fuel : Nat} {cs : List Value} {x : DataW H × List MemPlace} {fs : Array Field} (ht : P.underlying t = some (.struct fs)) (h : DataW.trod enc P w base spare held fuel t cs = some x) (hW : WOk P t x.1) :
    cs.length = P.cellsOf t ∧ ∃ n, ∀ (i : Nat) (f : Field), fs[i]? = some f → ∃ y, DataW.trod enc P w base spare held n f.type ((cs.drop f.offset).take (P.cellsOf f.type)) = some y ∧ WOk P f.type y.1 := by
  obtain ⟨xs, n, _, rfl, hl, hxs, hf⟩ := DataW.trod_struct ht h
  refine ⟨hl, n, fun i f hi => ?_⟩
  have h1 := (Array.getElem?_eq_some_iff.1 hi).1
  have hix : i < xs.length := by omega
  refine ⟨xs[i], (hf i f hi).trans (List.getElem?_eq_getElem hix), fun m hm => hW m ?_⟩
  simp only [DataW.weights, ht]
  exact DataW.weights_mem_each (j := i) (t := f.type) (d := xs[i].1) (by simp [hi]) (by simp [hix]) m hm
end
section
variable {P : Program} {Q : Exit → Act → World → Prop} {n : Nat} {f : Fr} {w : World}
variable {r : Option Nat}
abbrev marks (Ds : List Nat) : List Item := Ds.map fun D => obj D (.deferred (some []))
theorem StX.mark {S : List Nat} {w0 w : World} {D : Nat} {Ds : List Nat} {L : List Item} (h : StX S w0 w (obj D (.deferred (some [])) :: packI (marks Ds) :: L)) : StX S w0 w (packI (marks (D :: Ds)) :: L) := by
 have h1 : StX S w0 w (obj D (.deferred (some [])) :: (marks Ds ++ L)) := by
  have h2 : StX S w0 w (packI (marks Ds) :: obj D (.deferred (some [])) :: L) := h.perm (List.Perm.swap _ _ _)
  have h3 := h2.unpack
  exact h3.perm List.perm_middle
 exact StX.pack (M := marks (D :: Ds)) h1
theorem StX.base {w0 w1 w : World} {L : List Item} (e : Ext w0 w1) (h : StX [] w1 w L) : StX [] w0 w L :=
 ⟨(e.trans h.ext).extX, h.ok, fun b hb => .inl (Nat.le_trans e.size (h.owned hb)), h.apart⟩
theorem StX.front {S : List Nat} {w0 w : World} {A B : List Item} {x : Item} (h : StX S w0 w (A ++ x :: B)) : StX S w0 w (x :: (A ++ B)) := h.perm List.perm_middle
end
section
variable {P : Program} {ops : Array Oper} {Q : Exit → Act → World → Prop} {n m : Nat} {F : Fence}
/-- The post of the head: behind it the tail. -/
def headPostIn (F : Fence) (m : Nat) (P : Program) (ops : Array Oper) (Q : Exit → Act → World → Prop) (n : Nat) : Exit → Act → World → Prop
 | .normal, a, w => wpListIn F m P ops Q (ops.toList.drop n) a w
 | e, a, w => Q e a w
instance noHead {F : Fence} {m : Nat} {P : Program} {ops : Array Oper} {Q : Exit → Act → World → Prop} {n : Nat} [i : NoOut Q] : NoOut (headPostIn F m P ops Q n) := ⟨fun a w h => i.no a w h⟩
variable {r : Option Nat} {ds : List Deferred} {S : List Nat} {w0 w : World} {L : List Item} {f : Fr} {nf : Nat}
end
theorem thenOut {K : Act → World → Prop} {Q : Exit → Act → World → Prop} {id' : Nat} {a : Act} {w : World} (k : Q (.exit id') a w) : Exit.then K Q (.exit id') a w := k
theorem blockIn {Q : Exit → Act → World → Prop} {id : Nat} {a : Act} {w : World} (k : Q .normal a w) : Exit.inBlock id Q (.exit id) a w := by
 show (if id = id then Q .normal a w else Q (.exit id) a w)
 rw [if_pos rfl]; exact k
section
variable {κ : Type} [DecidableEq κ] {P : Program}
def FindOk (enc : κ → Value) (m : List (κ × Value)) (k : κ) (es : List MapEntry) (i : Nat) (r : Option (Nat × Value)) : Prop :=
 r.map (·.2) = getM m k ∧
 (∀ j v0, r = some (j, v0) → ∃ l, j = i + l ∧ ∃ (hl : l < es.length), es[l].key = enc k ∧ ∀ v, (es.modify l (fun e => { e with key := enc k, val := v })).map (fun (e : MapEntry) => (e.key, e.val)) = (setM m k v).map (fun p => (enc p.1, p.2))) ∧
 (r = none → ∀ v, (es ++ [(⟨enc k, v, 0⟩ : MapEntry)]).map (fun (e : MapEntry) => (e.key, e.val)) = (setM m k v).map (fun p => (enc p.1, p.2)))
structure KeyFn (P : Program) (T : TypeId) (enc : κ → Value) : Prop where
 check : ∀ e k w, (Instr.checkKey e 10000 T (enc k)).run P w = .ok () w
 find : ∀ (k : κ) (es : List MapEntry) (m : List (κ × Value)) (w : World), es.map (fun (e : MapEntry) => (e.key, e.val)) = m.map (fun p => (enc p.1, p.2)) → ∃ r, (Instr.findKey T (enc k) es).run P w = .ok r w ∧ FindOk enc m k es 0 r
 bits : ∀ a, Instr.sameBits 10000 (enc a) (enc a) = true
theorem findAsk_get {T : TypeId} {enc : κ → Value} (hd : ∀ a b w, (Op.equal T (enc a) (enc b)).run P w = .ok (decide (a = b)) w) (k : κ) (w : World) : ∀ (es : List MapEntry) (m : List (κ × Value)) (i : Nat), es.map (fun (e : MapEntry) => (e.key, e.val)) = m.map (fun p => (enc p.1, p.2)) →
    ∃ r, (Instr.findAsking T (enc k) es i).run P w = .ok r w ∧ FindOk enc m k es i r
  | [], m, i, h => by
    obtain rfl : m = [] := by simpa using h.symm
    exact ⟨none, rfl, rfl, (fun _ _ e => by cases e), fun _ v => rfl⟩
  | e :: es, m, i, h => by
    cases m with
    | nil => simp at h
    | cons p m =>
      obtain ⟨a, x⟩ := p
      simp only [List.map_cons, List.cons.injEq, Prod.mk.injEq] at h
      obtain ⟨⟨h1, h2⟩, h3⟩ := h
      by_cases hka : k = a
      · subst hka
        refine ⟨some (i, e.val), by simp [Instr.findAsking, h1, hd], by simp [getM, h2], ?_, fun e => by cases e⟩
        intro j v0 hj
        simp only [Option.some.injEq, Prod.mk.injEq] at hj
        refine ⟨0, by omega, by simp, h1, fun v => ?_⟩
        simp [setM, h3]
      · obtain ⟨r, hr1, hr2, hr3, hr4⟩ := findAsk_get hd k w es m (i + 1) h3
        refine ⟨r, by simp [Instr.findAsking, h1, hd, hka, hr1], by simp [getM, hka, hr2], ?_, ?_⟩
        · intro j v0 hj
          obtain ⟨l, rfl, hl, hk, hv⟩ := hr3 j v0 hj
          refine ⟨l + 1, by omega, by simp; omega, by simpa using hk, fun v => ?_⟩
          have := hv v
          simp only [List.modify_succ_cons, List.map_cons, setM, hka, if_false, h1, h2]
          rw [this]
        · intro hn v
          have := hr4 hn v
          simp only [List.cons_append, List.map_cons, setM, hka, if_false, h1, h2]
          rw [this]
theorem KeyFn.struct {T : TypeId} {enc : κ → Value} {fs : Array Field} (hu : P.underlying T = some (.struct fs)) (hd : ∀ a b w, (Op.equal T (enc a) (enc b)).run P w = .ok (decide (a = b)) w) (hc : ∀ e k w, (Instr.checkKey e 10000 T (enc k)).run P w = .ok () w) (hb : ∀ a, Instr.sameBits 10000 (enc a) (enc a) = true) : KeyFn P T enc := by
 refine ⟨hc, fun k es m w h => ?_, hb⟩
 obtain ⟨r, hr, hok⟩ := findAsk_get hd k w es m 0 h
 refine ⟨r, ?_, hok⟩
 simp only [Instr.findKey, Sem.run_bind, run_underlying hu, Result.andThen_ok]
 cases es with
 | nil => simpa [Instr.findNow, Instr.findAsking] using hr
 | cons e es => simpa [Instr.findNow, Instr.sameNow] using hr
end
section
variable {P : Program} {ops : Array Oper} {Q : Exit → Act → World → Prop} {n : Nat} {f : Fr} {S : List Nat} {w0 w w' : World} {L L' : List Item} {rest : List Oper} {d : Nat} {ty : TypeId} {pos : String} {af : Array Edge}
variable {κ : Type} [DecidableEq κ]
end
section
variable {P : Program} {ops : Array Oper} {Q : Exit → Act → World → Prop} {n : Nat} {rest : List Oper} {f : Fr} {w : World} {d : Nat} {ty : TypeId} {pos : String} {af : Array Edge}
end
abbrev Seat := Int × Int × Int
def fset {α β : Type} [DecidableEq α] (f : α → β) (k : α) (v : β) : α → β := fun x => if x = k then v else f x
structure Mst where
 tried : Seat → Bool
 taken : Seat → Option Int
 seats : Int → Option Seat
def Mst.mark (st : Mst) (s : Seat) : Mst := { st with tried := fset st.tried s true }
def Mst.put (st : Mst) (s : Seat) (i : Int) : Mst := { st with taken := fset st.taken s (some i), seats := fset st.seats i (some s) }
def goF (fx : Int → Bool) (rec : Int → Mst → Bool × Mst) (i : Int) : List Seat → Mst → Bool × Mst
  | [], st => (false, st)
  | s :: l, st =>
    if st.tried s = true then goF fx rec i l st
    else match st.taken s with
      | none => (true, (st.mark s).put s i)
      | some o => if fx o = true then goF fx rec i l (st.mark s)
        else if (rec o (st.mark s)).1 = true then (true, (rec o (st.mark s)).2.put s i)
        else goF fx rec i l (rec o (st.mark s)).2
def moveF (fx : Int → Bool) (sl : Int → List Seat) : Nat → Int → Mst → Bool × Mst
 | 0, _, st => (false, st)
 | n + 1, i, st => goF fx (moveF fx sl n) i (sl i) st
/-- What is tried stays so. -/
def Mono (st st' : Mst) : Prop := ∀ s, st.tried s = true → st'.tried s = true
theorem Mono.refl (st : Mst) : Mono st st := fun _ h => h
theorem Mono.trans {a b c : Mst} (h : Mono a b) (k : Mono b c) : Mono a c := fun s hs => k s (h s hs)
/-- What a search that found nothing leaves. -/
structure Fail (fx : Int → Bool) (sl : Int → List Seat) (l : List Seat) (st st' : Mst) : Prop where
 taken : st'.taken = st.taken
 seats : st'.seats = st.seats
 mono : Mono st st'
 all : ∀ s ∈ l, st'.tried s = true
 new : ∀ s, st'.tried s = true → st.tried s = false → ∃ o, st.taken s = some o ∧ (fx o = true ∨ ∀ x ∈ sl o, st'.tried x = true)
theorem Fail.nil {fx : Int → Bool} {sl : Int → List Seat} {st : Mst} : Fail fx sl [] st st := ⟨rfl, rfl, Mono.refl st, fun _ h => (nomatch h), fun s h1 h2 => by rw [h1] at h2; cases h2⟩
theorem Fail.skip {fx : Int → Bool} {sl : Int → List Seat} {s : Seat} {l : List Seat} {st st' : Mst} (hs : st.tried s = true) (h : Fail fx sl l st st') : Fail fx sl (s :: l) st st' :=
 ⟨h.taken, h.seats, h.mono, fun x hx => by
  rcases List.mem_cons.1 hx with rfl | hx
  ·
   exact h.mono _ hs
  ·
   exact h.all x hx, h.new⟩
/-- What a search that found a seat for i leaves: i's older seat, if it had one, is still told as its own. -/
structure Found (fx : Int → Bool) (sl : Int → List Seat) (l : List Seat) (i : Int) (st st' : Mst) : Prop where
 new : ∃ s ∈ l, st.tried s = false ∧ st'.tried s = true ∧ st'.seats i = some s ∧ ∀ x, st'.taken x = some i ↔ x = s ∨ st.seats i = some x
 cons : ∀ j, j ≠ i → ∀ s, st'.seats j = some s ↔ st'.taken s = some j
 keep : ∀ j, j ≠ i → (∀ s, st.seats j = some s → st.tried s = true ∨ fx j = true) → st'.seats j = st.seats j
 still : ∀ j s, st.seats j = some s → ∃ x, st'.seats j = some x
 fit : ∀ j s, st'.seats j = some s → st.seats j = some s ∨ (s ∈ sl j ∨ j = i ∧ s ∈ l)
theorem pig {α β : Type} [DecidableEq β] : ∀ (l : List α) (f : α → β) (m : List β), l.Nodup → (∀ x ∈ l, f x ∈ m) → (∀ x ∈ l, ∀ y ∈ l, f x = f y → x = y) → l.length ≤ m.length
  | [], _, _, _, _, _ => Nat.zero_le _
  | x :: l, f, m, hn, h, hi => by
    have hx := h x (List.mem_cons_self ..)
    have hn' := List.nodup_cons.1 hn
    have := pig l f (m.erase (f x)) hn'.2 (fun y hy => (List.mem_erase_of_ne (fun e => by
      have := hi y (List.mem_cons_of_mem _ hy) x (List.mem_cons_self ..) e
      subst this; exact hn'.1 hy)).2 (h y (List.mem_cons_of_mem _ hy))) (fun a ha b hb => hi a (List.mem_cons_of_mem _ ha) b (List.mem_cons_of_mem _ hb))
    rw [List.length_erase_of_mem hx] at this
    have := List.length_pos_of_mem hx
    simp only [List.length_cons]; omega
section
variable {fx : Int → Bool} {sl : Int → List Seat} {W : List Int} {st st' : Mst} {town : Int}
end
/-- What a plan is made of: the tick now, the towns, their channels, the last tick by a channel, the room of a channel. -/
structure Pl where
 now : Int
 W : List Int
 chans : Int → List Int
 latest : Int → Int → Int
 room : Int → Int
def Pl.at (P : Pl) (i sent : Int) (l : List Int) : List (Int × Int) := (l.filter fun c => decide (sent ≤ P.latest i c)).map fun c => (c, sent)
/-- The pairs of a channel and a tick at which a town hears in time; as many ticks as there are towns. -/
def Pl.places (P : Pl) (i : Int) : List (Int × Int) := (List.range P.W.length).flatMap fun (d : Nat) => P.at i (P.now + (d : Int)) (P.chans i)
def Pl.nums (P : Pl) (x : Int × Int) : List Seat := (List.range (P.room x.1).toNat).map fun (k : Nat) => (x.1, x.2, (k : Int))
def Pl.sl (P : Pl) (i : Int) : List Seat := (P.places i).flatMap P.nums
def fdel {α β : Type} [DecidableEq α] (f : α → Option β) (k : α) : α → Option β := fun x => if x = k then none else f x
def Pl.settle (P : Pl) (n : Nat) (fx : Int → Bool) (i : Int) (tk : Seat → Option Int) (st : Int → Option Seat) : Bool × Mst := moveF fx P.sl n i ⟨fun _ => false, tk, st⟩
/-- The maps of a plan: who has a seat; which seat one has; who is fixed. -/
structure Pst where
 taken : Seat → Option Int
 seats : Int → Option Seat
 fixed : Int → Bool
def Pst.free (p : Pst) (i : Int) : Pst := { p with taken := fdel p.taken ((p.seats i).getD (0, 0, 0)), seats := fdel p.seats i }
def Pst.sit (p : Pst) (s : Seat) (i : Int) : Pst := { p with taken := fset p.taken s (some i), seats := fset p.seats i (some s), fixed := fset p.fixed i true }
/-- The first one of some seats that nobody fixed has is given to a town. -/
def Pl.try (P : Pl) (n : Nat) (i : Int) (p : Pst) : List Seat → Bool × Pst
  | [] => (false, p)
  | s :: l => match p.taken s with
    | none => (true, (p.free i).sit s i)
    | some o => if p.fixed o = true then P.try n i p l
      else if o = i then (true, (p.free i).sit s i)
      else if (P.settle n (((p.free i).free o).sit s i).fixed o (((p.free i).free o).sit s i).taken (((p.free i).free o).sit s i).seats).1 = true
        then (true, ⟨(P.settle n (((p.free i).free o).sit s i).fixed o (((p.free i).free o).sit s i).taken (((p.free i).free o).sit s i).seats).2.taken, (P.settle n (((p.free i).free o).sit s i).fixed o (((p.free i).free o).sit s i).taken (((p.free i).free o).sit s i).seats).2.seats, (((p.free i).free o).sit s i).fixed⟩)
        else (false, { p with fixed := fset p.fixed i false })
def Pl.pick (P : Pl) (n : Nat) (i : Int) : List (Int × Int) → Pst → Pst
 | [], p => p
 | x :: l, p => if (P.try n i p (P.nums x)).1 = true then (P.try n i p (P.nums x)).2 else P.pick n i l (P.try n i p (P.nums x)).2
structure Slot where
 town : Int
 channel : Int
 sent : Int
deriving DecidableEq
/-- All seats there are, at so many ticks. -/
def Pl.all (P : Pl) (C : List Int) : List Seat := C.flatMap fun c => (List.range P.W.length).flatMap fun (d : Nat) => P.nums (c, P.now + (d : Int))
section
variable {κ ν : Type} [DecidableEq κ] {P : Program}
abbrev Tri (κ ν : Type) := κ × ν × Nat
def ent (enc : κ → Value) (dec : ν → Value) (x : Tri κ ν) : MapEntry := ⟨enc x.1, dec x.2.1, x.2.2⟩
def asc : List (Tri κ ν) → κ → Option ν
 | [], _ => none
 | x :: m, k => if k = x.1 then some x.2.1 else asc m k
structure MapS (enc : κ → Value) (dec : ν → Value) (F : κ → Option ν) (m : List (Tri κ ν)) (c : Nat) (o : Obj) : Prop where
 obj : o = .map (m.map (ent enc dec)).toArray c
 keys : (m.map (·.1)).Nodup
 born : (m.map (·.2.2)).Nodup
 clock : ∀ x ∈ m, x.2.2 < c
 fn : ∀ k, asc m k = F k
def MapP (enc : κ → Value) (dec : ν → Value) (F : κ → Option ν) (o : Obj) : Prop := ∃ m c, MapS enc dec F m c o
abbrev mapF (b : Nat) (enc : κ → Value) (dec : ν → Value) (F : κ → Option ν) : Item := cellI b (MapP enc dec F)
abbrev mapT (b : Nat) (enc : κ → Value) (dec : ν → Value) (F : κ → Option ν) (m : List (Tri κ ν)) (c : Nat) : Item := cellI b (MapS enc dec F m c)
theorem asc_none : ∀ {m : List (Tri κ ν)} {k : κ}, asc m k = none ↔ ∀ x ∈ m, x.1 ≠ k
  | [], k => by simp [asc]
  | x :: m, k => by
    rw [asc]
    by_cases h : k = x.1
    · rw [if_pos h]; simp; intro hh; exact absurd h.symm hh
    · rw [if_neg h, asc_none]; simp; intro _; exact fun e => h e.symm
theorem asc_mem : ∀ {m : List (Tri κ ν)} {k : κ} {v : ν}, (m.map (·.1)).Nodup → (asc m k = some v ↔ ∃ b, (k, v, b) ∈ m)
  | [], k, v, _ => by simp [asc]
  | x :: m, k, v, hn => by
    rw [List.map_cons, List.nodup_cons] at hn
    rw [asc]
    by_cases h : k = x.1
    · rw [if_pos h]
      subst h
      constructor
      · intro e; cases e; exact ⟨x.2.2, List.mem_cons_self ..⟩
      · rintro ⟨b, hb⟩
        rcases List.mem_cons.1 hb with e | e
        · rw [← e]
        · exact absurd (List.mem_map.2 ⟨_, e, rfl⟩) hn.1
    · rw [if_neg h, asc_mem hn.2]
      constructor
      · rintro ⟨b, hb⟩; exact ⟨b, List.mem_cons_of_mem _ hb⟩
      · rintro ⟨b, hb⟩
        rcases List.mem_cons.1 hb with e | e
        · exact absurd (congrArg Prod.fst e) h
        · exact ⟨b, e⟩
theorem asc_mid (l1 l2 : List (Tri κ ν)) (x : Tri κ ν) (v : ν) (b : Nat) (hn : ((l1 ++ x :: l2).map (·.1)).Nodup) (k : κ) : asc (l1 ++ (x.1, v, b) :: l2) k = if k = x.1 then some v else asc (l1 ++ x :: l2) k := by
 induction l1 with
 | nil =>
  rw [List.nil_append, List.nil_append, asc, asc]
  by_cases h : k = x.1
  ·
   rw [if_pos h, if_pos h]
  ·
   rw [if_neg h, if_neg h, if_neg h]
 | cons y l1 ih =>
  simp only [List.cons_append, List.map_cons, List.nodup_cons] at hn
  have ih := ih hn.2
  simp only [List.cons_append, asc, ih]
  by_cases h : k = y.1
  ·
   subst h
   have : y.1 ≠ x.1 := fun e => hn.1 (by simp [e])
   simp [this]
  ·
   simp [h]
theorem asc_push (m : List (Tri κ ν)) (x : Tri κ ν) (hx : asc m x.1 = none) (k : κ) : asc (m ++ [x]) k = if k = x.1 then some x.2.1 else asc m k := by
 induction m with
 | nil => rfl
 | cons y m ih =>
  rw [asc] at hx
  split at hx
  ·
   cases hx
  next hne =>
   simp only [List.cons_append, asc, ih hx]
   by_cases h : k = y.1
   ·
    subst h
    have h2 : ¬ y.1 = x.1 := fun e => hne e.symm
    simp [h2]
   ·
    simp [h]
theorem modify_mid {α : Type} (f : α → α) (x : α) (l2 : List α) : ∀ l1 : List α, (l1 ++ x :: l2).modify l1.length f = l1 ++ f x :: l2
 | [] => rfl
 | y :: l1 => by simp [List.modify_succ_cons, modify_mid f x l2 l1]
/-- A key's type: how keys are found, and that they are told apart. -/
structure KeyI (P : Program) (T : TypeId) (enc : κ → Value) : Prop where
 fn : KeyFn P T enc
 inj : ∀ a b, enc a = enc b → a = b
theorem KeyOk.fnI {T : TypeId} {enc : κ → Value} (hk : KeyOk P T enc) : KeyI P T enc := by
 obtain ⟨d, hd, hs, h2⟩ := hk.und
 refine ⟨⟨fun e k w => run_checkKey hk e _ w, fun k es m w h => ?_, hk.bits⟩, fun a b e => ?_⟩
 ·
  obtain ⟨r, hr, h1, h2, h3⟩ := findNow_get hs k es m 0 h
  exact ⟨r, by simp [Instr.findKey, run_underlying hd, hr], h1, h2, h3⟩
 ·
  have h1 := hs a a
  have h3 := hs a b
  rw [← e, h1] at h3
  simpa using h3
theorem run_find {T : TypeId} {enc : κ → Value} {dec : ν → Value} (hk : KeyI P T enc) (k : κ) (m : List (Tri κ ν)) (hn : (m.map (·.1)).Nodup) (w : World) :
    ∃ r, (Instr.findKey T (enc k) (m.map (ent enc dec))).run P w = .ok r w ∧ ((r = none ∧ asc m k = none) ∨ ∃ l1 v b l2, m = l1 ++ (k, v, b) :: l2 ∧ r = some (l1.length, dec v) ∧ asc m k = some v) := by
  obtain ⟨r, hr, h1, h2, h3⟩ := hk.fn.find k (m.map (ent enc dec)) (m.map fun x => (x.1, dec x.2.1)) w (by simp [ent, Function.comp_def])
  refine ⟨r, hr, ?_⟩
  have hget : ∀ m : List (Tri κ ν), getM (m.map fun x => (x.1, dec x.2.1)) k = (asc m k).map dec := by
    intro m
    induction m with
    | nil => rfl
    | cons x m ih => simp only [List.map_cons, getM, asc]; split <;> simp_all
  rw [hget] at h1
  cases r with
  | none =>
    refine .inl ⟨rfl, ?_⟩
    cases ha : asc m k with
    | none => rfl
    | some v => rw [ha] at h1; cases h1
  | some p =>
    obtain ⟨j, v0⟩ := p
    obtain ⟨l, hj, hl, hkey, -⟩ := h2 j v0 rfl
    rw [Nat.zero_add] at hj
    subst hj
    have hl' : j < m.length := by simpa using hl
    have hkk : (m[j]).1 = k := hk.inj _ _ (by simpa [ent] using hkey)
    have hsplit : m = m.take j ++ m[j] :: m.drop (j + 1) := by simp
    have hasc : asc m k = some (m[j]).2.1 := (asc_mem hn).2 ⟨(m[j]).2.2, by rw [← hkk]; exact List.getElem_mem hl'⟩
    rw [hasc] at h1
    simp only [Option.map_some, Option.some.injEq] at h1
    refine .inr ⟨m.take j, (m[j]).2.1, (m[j]).2.2, m.drop (j + 1), ?_, ?_, hasc⟩
    · have e : m[j] = (k, (m[j]).2.1, (m[j]).2.2) := by rw [← hkk]
      rw [← e]; exact hsplit
    · rw [h1, List.length_take, Nat.min_eq_left (by omega)]
variable {T K E : TypeId} {enc : κ → Value} {dec : ν → Value} {F : κ → Option ν} {w : World} {b : Nat} {k : κ} {v : ν}
theorem run_lookupF {z : Value} {ok : Bool} (hT : ∀ w, (underlying T).run P w = .ok (.map K E) w) (hk : KeyI P K enc) (hz : ∀ w, (zeroValue E).run P w = .ok z w) (hb : ∃ o, w.heap[b]? = some o ∧ MapP enc dec F o) :
    (Instr.lookup T (.map (some b)) (enc k) ok).run P w = .ok (if ok then .tuple #[((F k).map dec).getD z, .bool (F k).isSome] else ((F k).map dec).getD z) w := by
  obtain ⟨o, hb, m, c, rfl, hn, -, -, hf⟩ := hb
  obtain ⟨r, hr, hor⟩ := run_find hk k m hn w (dec := dec)
  have hget : (getObj b).run P w = .ok (.map (m.map (ent enc dec)).toArray c) w := by simp [getObj, Sem.run, hb]
  rw [← hf k]
  rcases hor with ⟨rfl, ha⟩ | ⟨l1, v, bn, l2, -, rfl, ha⟩
  · rw [ha]
    cases ok <;> simp [Instr.lookup, hT, hget, hk.fn.check, hr, hz]
  · rw [ha]
    cases ok <;> simp [Instr.lookup, hT, hget, hk.fn.check, hr, hz]
theorem set_obj {es : Array MapEntry} {c0 : Nat} {o' : Obj} (hb : w.heap[b]? = some (.map es c0)) : (setObj b o').run P w = .ok () { w with heap := w.heap.setIfInBounds b o' } ∧ Put b o' w { w with heap := w.heap.setIfInBounds b o' } := by
 have hlt := lt_of_heap hb
 refine ⟨by simp [setObj, Sem.run, hb], rfl, rfl, rfl, by simp, by simp [hlt], fun j _ hj => ?_⟩
 show (w.heap.setIfInBounds b o')[j]? = _
 rw [Array.getElem?_setIfInBounds, if_neg (fun e => hj e.symm)]
theorem MapS.put {m : List (Tri κ ν)} {c : Nat} {o : Obj} {l1 l2 : List (Tri κ ν)} {v0 : ν} {bn : Nat} (h : MapS enc dec F m c o) (hm : m = l1 ++ (k, v0, bn) :: l2) (v : ν) :
    MapS enc dec (fset F k (some v)) (l1 ++ (k, v, bn) :: l2) c (.map ((l1 ++ (k, v, bn) :: l2).map (ent enc dec)).toArray c) where
  obj := rfl
  keys := by have := h.keys; rw [hm] at this; simpa using this
  born := by have := h.born; rw [hm] at this; simpa using this
  clock := fun x hx => by
    have := h.clock
    rw [hm] at this
    simp only [List.mem_append, List.mem_cons] at hx this
    rcases hx with hx | rfl | hx
    · exact this x (.inl hx)
    · exact this (k, v0, bn) (.inr (.inl rfl))
    · exact this x (.inr (.inr hx))
  fn := fun j => by
    have hk := h.keys
    rw [hm] at hk
    have := asc_mid l1 l2 (k, v0, bn) v bn hk j
    simp only at this
    rw [this, ← hm, h.fn]; rfl
theorem MapS.push {m : List (Tri κ ν)} {c : Nat} {o : Obj} (h : MapS enc dec F m c o) (hk : asc m k = none) (v : ν) : MapS enc dec (fset F k (some v)) (m ++ [(k, v, c)]) (c + 1) (.map ((m ++ [(k, v, c)]).map (ent enc dec)).toArray (c + 1)) where
 obj := rfl
 keys := by
  rw [List.map_append]
  refine List.nodup_append.2 ⟨h.keys, by simp, fun a ha x hx e => ?_⟩
  simp only [List.map_cons, List.map_nil, List.mem_singleton] at hx
  obtain ⟨y, hy, rfl⟩ := List.mem_map.1 ha
  exact asc_none.1 hk y hy (e.trans hx)
 born := by
  rw [List.map_append]
  refine List.nodup_append.2 ⟨h.born, by simp, fun a ha x hx e => ?_⟩
  simp only [List.map_cons, List.map_nil, List.mem_singleton] at hx
  obtain ⟨y, hy, rfl⟩ := List.mem_map.1 ha
  have := h.clock y hy
  omega
 clock := fun x hx => by
  rcases List.mem_append.1 hx with hx | hx
  ·
   exact Nat.lt_succ_of_lt (h.clock x hx)
  ·
   rw [List.mem_singleton.1 hx]; exact Nat.lt_succ_self _
 fn := fun j => by
  rw [asc_push m (k, v, c) hk j, h.fn]; rfl
theorem run_updF (hT : ∀ w, (underlying T).run P w = .ok (.map K E) w) (hk : KeyI P K enc) (hb : ∃ o, w.heap[b]? = some o ∧ MapP enc dec F o) :
    ∃ o' w', (Instr.mapUpdate T (.map (some b)) (enc k) (dec v)).run P w = .ok () w' ∧ Put b o' w w' ∧ MapP enc dec (fset F k (some v)) o' := by
  obtain ⟨o, hb, m, c, hm⟩ := hb
  have ho := hm.obj
  subst ho
  obtain ⟨r, hr, hor⟩ := run_find hk k m hm.keys w (dec := dec)
  have hget : (getObj b).run P w = .ok (.map (m.map (ent enc dec)).toArray c) w := by simp [getObj, Sem.run, hb]
  rcases hor with ⟨rfl, ha⟩ | ⟨l1, v0, bn, l2, hsp, rfl, ha⟩
  · obtain ⟨s1, s2⟩ := set_obj (P := P) (o' := .map ((m ++ [(k, v, c)]).map (ent enc dec)).toArray (c + 1)) hb
    refine ⟨_, _, ?_, s2, _, _, hm.push ha v⟩
    have e : (m.map (ent enc dec)).toArray.push ⟨enc k, dec v, c⟩ = ((m ++ [(k, v, c)]).map (ent enc dec)).toArray := by simp [ent]
    simp only [Instr.mapUpdate, Sem.run_bind, hT, Result.andThen_ok, hget, hk.fn.check, hr, Sem.run_pure, e, s1]
  · obtain ⟨s1, s2⟩ := set_obj (P := P) (o' := .map ((l1 ++ (k, v, bn) :: l2).map (ent enc dec)).toArray c) hb
    refine ⟨_, _, ?_, s2, _, _, hm.put hsp v⟩
    have e : (m.map (ent enc dec)).toArray.modify l1.length (fun e => { e with key := enc k, val := dec v }) = ((l1 ++ (k, v, bn) :: l2).map (ent enc dec)).toArray := by
      apply Array.ext'
      rw [Array.toList_modify, hsp]
      simp only [List.map_append, List.map_cons]
      have := modify_mid (fun e : MapEntry => { e with key := enc k, val := dec v }) (ent enc dec (k, v0, bn)) (l2.map (ent enc dec)) (l1.map (ent enc dec))
      rw [List.length_map] at this
      rw [this]; rfl
    have hst : ∀ w, (Instr.keyThatStays ((((m.map (ent enc dec)).toArray[l1.length]?).map (·.key)).getD (enc k)) (enc k)).run P w = .ok (enc k) w := fun w => by
      have : (m.map (ent enc dec)).toArray[l1.length]? = some (ent enc dec (k, v0, bn)) := by rw [hsp]; simp
      rw [this]
      simp [Instr.keyThatStays, ent, hk.fn.bits]
    simp only [Instr.mapUpdate, Sem.run_bind, hT, Result.andThen_ok, hget, hk.fn.check, hr, Sem.run_pure, hst, e, s1]
end
/-- L with something else of what lies at b. -/
class SetA (L : List Item) (b : Nat) (Lf : outParam ((Obj → Prop) → List Item)) where
 inst : ∀ p, SetB L b p (Lf p)
instance (priority := high) setaHere (b : Nat) (p : Obj → Prop) (L : List Item) : SetA (cellI b p :: L) b (fun q => cellI b q :: L) := ⟨fun q => setHere b p q L⟩
instance (priority := low) setaThere (it : Item) (L : List Item) (b : Nat) (Lf : (Obj → Prop) → List Item) [i : SetA L b Lf] : SetA (it :: L) b (fun q => it :: Lf q) := ⟨fun q => @setThere it L b q (Lf q) (i.inst q)⟩
theorem put_self {b : Nat} {o : Obj} {w : World} (h : w.heap[b]? = some o) : Put b o w w := ⟨rfl, rfl, rfl, Nat.le_refl _, h, fun _ _ _ => rfl⟩
theorem StX.re {S : List Nat} {w0 w : World} {L L' : List Item} {b : Nat} {p : Obj → Prop} (h : StX S w0 w L) (ho : ∃ o, w.heap[b]? = some o ∧ p o) [i : SetB L b p L'] : StX S w0 w L' := by
 obtain ⟨o, h1, h2⟩ := ho
 exact h.puts (put_self h1) h2
section
variable {κ ν : Type} [DecidableEq κ] {enc : κ → Value} {dec : ν → Value} {F : κ → Option ν} {m : List (Tri κ ν)} {c b : Nat}
theorem StX.opn {S : List Nat} {w0 w : World} {L : List Item} (h : StX S w0 w L) (b : Nat) [i : AtB L b (MapP enc dec F)] : ∃ m c, ∃ o, w.heap[b]? = some o ∧ MapS enc dec F m c o := by
 obtain ⟨o, h1, m, c, h2⟩ := h.is b
 exact ⟨m, c, o, h1, h2⟩
theorem StX.shut {S : List Nat} {w0 w : World} {L L' : List Item} (h : StX S w0 w L) (b : Nat) [i : AtB L b (MapS enc dec F m c)] [j : SetB L b (MapP enc dec F) L'] : StX S w0 w L' := by
 obtain ⟨o, h1, h2⟩ := h.is b
 exact h.re (b := b) (p := MapP enc dec F) ⟨o, h1, m, c, h2⟩
variable {P : Program} {ρ : Operand → Value} {w : World} {ty : TypeId} {T K E : TypeId} {k : κ} {z v : Value} {xm xk : Operand}
theorem yLookF (hm : ρ xm = .map (some b)) (hx : ρ xk = enc k) (hT : ∀ w, (underlying T).run P w = .ok (.map K E) w) (hk : KeyI P K enc) (hz : ∀ w, (zeroValue E).run P w = .ok z w) (hb : ∃ o, w.heap[b]? = some o ∧ MapP enc dec F o) (hv : ((F k).map dec).getD z = v) :
    Y P ρ (.lookup T xm xk false) ty w v w := by
  have := run_lookupF (k := k) (ok := false) hT hk hz hb
  subst hv
  simp [Y, xop, execOp, hm, hx, this]
theorem yEntryR {x : Tri κ ν} {seen : List Nat} {bi : Nat} {xi : Operand} (hx : ρ xi = .pointer (some ⟨bi, 0, none⟩)) (hi : w.heap[bi]? = some (.mapIter (some b) c (seen ++ [x.2.2]).toArray c)) (hb : ∃ o, w.heap[b]? = some o ∧ MapS enc dec F m c o) (hm : x ∈ m) :
    Y P ρ (.entry xi) ty w (.tuple #[enc x.1, dec x.2.1]) w := by
  obtain ⟨o, hb, hS⟩ := hb
  have ho := hS.obj
  subst ho
  have h1 : (getObj bi).run P w = .ok (.mapIter (some b) c (seen ++ [x.2.2]).toArray c) w := by simp only [getObj, Sem.run, hi]
  have h2 : (getObj b).run P w = .ok (.map (m.map (ent enc dec)).toArray c) w := by simp only [getObj, Sem.run, hb]
  have h3 : (m.map (ent enc dec)).find? (fun e => e.born == x.2.2) = some (ent enc dec x) := by
    have hbn := hS.born
    clear hS hb h2
    induction m with
    | nil => cases hm
    | cons y m ih =>
      rw [List.map_cons, List.nodup_cons] at hbn
      rw [List.map_cons, List.find?_cons]
      by_cases e : y.2.2 = x.2.2
      · have : y = x := by
          rcases List.mem_cons.1 hm with h | h
          · exact h.symm
          · exact absurd (List.mem_map.2 ⟨x, h, e.symm⟩) hbn.1
        subst this
        simp [ent]
      · have : ((ent enc dec y).born == x.2.2) = false := by simpa [ent] using e
        rw [this]
        refine ih ?_ hbn.2
        rcases List.mem_cons.1 hm with h | h
        · exact absurd (congrArg (fun q : Tri κ ν => q.2.2) h.symm) e
        · exact h
  have h4 : (m.map (ent enc dec)).toArray.find? (fun e => e.born == x.2.2) = some (ent enc dec x) := by rw [List.find?_toArray]; exact h3
  simp only [Y, xop, execOp, hx, Instr.entry, Sem.run_bind, h1, Result.andThen_ok]
  simp [h2, h4, Result.andThen, ent]
end
section
variable {κ ν : Type} [DecidableEq κ] {enc : κ → Value} {dec : ν → Value} {F : κ → Option ν} {m : List (Tri κ ν)} {c b bi st : Nat} {seen : List Nat} {z0 u : ν} {k : κ}
variable {P : Program} {ops : Array Oper} {Q : Exit → Act → World → Prop} {n : Nat} {f : Fr} {S : List Nat} {w0 w w' : World} {L L' : List Item} {rest : List Oper} {d : Nat} {ty : TypeId} {pos : String} {af : Array Edge} {T K E K' : TypeId} {xm xk xv xi xs : Operand}
omit [DecidableEq κ] in
theorem MapP.nil [DecidableEq κ] : MapP enc dec (fun _ : κ => (none : Option ν)) (.map #[] 0) := ⟨[], 0, rfl, by simp, by simp, fun _ h => (nomatch h), fun _ => rfl⟩
theorem smkmapF (enc : κ → Value) (dec : ν → Value) (hS : StX S w0 w L) (h : ∀ b w', StX S w0 w' (mapF b enc dec (fun _ => none) :: L) → wpL P ops Q n rest (upd f d (.map (some b))) w') : wpL P ops Q n (⟨some d, .makeMap T none, ty, pos, af, none⟩ :: rest) f w := by
 refine sv (v := .map (some w.heap.size)) (w' := w.alloc (.map #[] 0)) ?_ (h w.heap.size _ (hS.call1 ⟨(ext_alloc w _).extX, ?_, ?_, ?_⟩))
 ·
  simp [Y, xop, execOp, Instr.makeMap]
 ·
  intro it hit
  obtain rfl : it = _ := by simpa using hit
  exact ⟨_, heap_alloc_new w _, MapP.nil⟩
 ·
  intro b hb
  obtain rfl : b = _ := by simpa [fps, cellI] using hb
  exact .inl (Nat.le_refl _)
 ·
  simp [fps, cellI]
theorem smapsetF (hS : StX S w0 w L) (hm : ev n f xm = .map (some b)) (hx : ev n f xk = enc k) (hv : ev n f xv = dec u) (hT : ∀ w, (underlying T).run P w = .ok (.map K E) w) (hk : KeyI P K enc) [i : AtB L b (MapP enc dec F)] [j : SetB L b (MapP enc dec (fset F k (some u))) L']
    (h : ∀ w', StX S w0 w' L' → wpL P ops Q n rest f w') : wpL P ops Q n (⟨none, .mapUpdate T xm xk xv, ty, pos, af, none⟩ :: rest) f w := by
  obtain ⟨o', w', hr, hp, ho⟩ := run_updF (k := k) (v := u) hT hk (hS.is b)
  refine wpL_skip (w' := w') ?_ (h w' (hS.puts hp ho))
  simp [xop, execOp, hm, hx, hv, hr]
theorem srangeF (hS : StX S w0 w L) (hm : ev n f xm = .map (some b)) (hT : ∀ w, (underlying T).run P w = .ok (.map K E) w) [i : AtB L b (MapS enc dec F m c)]
    (h : ∀ bi w', StX S w0 w' (obj bi (.mapIter (some b) c ([] : List Nat).toArray c) :: L) → wpL P ops Q n rest (upd f d (.pointer (some ⟨bi, 0, none⟩))) w') : wpL P ops Q n (⟨some d, .range T xm, ty, pos, af, none⟩ :: rest) f w := by
  obtain ⟨o, hb, hM⟩ := hS.is b
  have ho := hM.obj
  subst ho
  refine sv (v := .pointer (some ⟨w.heap.size, 0, none⟩)) (w' := w.alloc (.mapIter (some b) c #[] c)) ?_ (h w.heap.size _ (hS.call1 (St.new w _)))
  have h2 : (getObj b).run P w = .ok (.map (m.map (ent enc dec)).toArray c) w := by simp only [getObj, Sem.run, hb]
  simp [Y, xop, execOp, hm, Instr.range, hT, h2, Result.andThen]
def nxtO (enc : κ → Value) (dec : ν → Value) : Option (Tri κ ν) → Array Value
 | none => #[.bool false]
 | some x => #[.bool true, enc x.1, dec x.2.1]
theorem nxtO_ok (o : Option (Tri κ ν)) : (nxtO enc dec o)[0]? = some (.bool o.isSome) := by cases o <;> rfl
theorem snextF (hS : StX S w0 w L) (hx : ev n f xi = .pointer (some ⟨bi, 0, none⟩)) {Lf : (Obj → Prop) → List Item} [i : AtB L bi (Eq (.mapIter (some b) c seen.toArray c))] [i2 : AtB L b (MapS enc dec F m c)] [j : SetA L bi Lf]
    (h : ∀ (o : Option (Tri κ ν)) w', (∀ x, o = some x → x ∈ m ∧ x.2.2 ∉ seen) → (o = none → ∀ y ∈ m, y.2.2 ∈ seen) → StX S w0 w' (Lf (Eq (.mapIter (some b) c (seen ++ (o.map (·.2.2)).toList).toArray c))) → wpL P ops Q n rest (upd f d (.tuple (nxtO enc dec o))) w') :
    wpL P ops Q n (⟨some d, .next xi false, ty, pos, af, none⟩ :: rest) f w := by
  obtain ⟨o, hb, hM⟩ := hS.is b
  have ho := hM.obj
  subst ho
  have hi := hS.at bi (o := .mapIter (some b) c seen.toArray c)
  have h1 : ∀ w1, w1.heap = w.heap → (getObj bi).run P w1 = .ok (.mapIter (some b) c seen.toArray c) w1 := fun w1 e => by simp only [getObj, Sem.run, e, hi]
  have h2 : ∀ w1, w1.heap = w.heap → (getObj b).run P w1 = .ok (.map (m.map (ent enc dec)).toArray c) w1 := fun w1 e => by simp only [getObj, Sem.run, e, hb]
  have hcl := hM.clock
  have hlast : (!seen.toArray.isEmpty && !(m.map (ent enc dec)).toArray.isEmpty && (m.map (ent enc dec)).toArray.all (fun e => decide (e.born ≥ c))) = false := by
    cases m with
    | nil => simp
    | cons x m =>
      have := hcl x (List.mem_cons_self ..)
      have hn : ¬ c ≤ x.2.2 := by omega
      simp [ent, hn]
  have hleft : (m.map (ent enc dec)).toArray.filter (fun e => !seen.toArray.contains e.born) = ((m.filter fun x => !seen.contains x.2.2).map (ent enc dec)).toArray := by
    rw [List.filter_toArray, List.filter_map]
    congr 2
    apply List.filter_congr
    intro x _
    show (!(seen.toArray.contains x.2.2)) = !seen.contains x.2.2
    rw [List.contains_toArray]
  have hG : ∀ x ∈ m.filter (fun x => !seen.contains x.2.2), x ∈ m ∧ x.2.2 ∉ seen := fun x hx => by
    obtain ⟨k1, k2⟩ := List.mem_filter.1 hx
    exact ⟨k1, by simpa using k2⟩
  have hold : ((m.filter fun x => !seen.contains x.2.2).map (ent enc dec)).toArray.filter (fun e => decide (e.born < c)) = ((m.filter fun x => !seen.contains x.2.2).map (ent enc dec)).toArray := by
    rw [List.filter_toArray]
    congr 1
    rw [List.filter_eq_self]
    intro e he
    obtain ⟨x, hx, rfl⟩ := List.mem_map.1 he
    exact decide_eq_true (hcl x (hG x hx).1)
  have hnew : ((m.filter fun x => !seen.contains x.2.2).map (ent enc dec)).toArray.filter (fun e => decide (e.born ≥ c)) = #[] := by
    rw [List.filter_toArray]
    congr 1
    rw [List.filter_eq_nil_iff]
    intro e he
    obtain ⟨x, hx, rfl⟩ := List.mem_map.1 he
    have := hcl x (hG x hx).1
    simp [ent]; omega
  generalize hGG : m.filter (fun x => !seen.contains x.2.2) = G at hG hleft hold hnew
  cases hc : G with
  | nil =>
    subst hc
    refine sv (v := .tuple (nxtO enc dec none)) (w' := w) ?_ (h none w (fun _ e => (nomatch e)) (fun _ y hy => ?_) ?_)
    · simp only [Y, xop, execOp, hx, Instr.next, Sem.run_bind, h1 w rfl, h2 w rfl, Result.andThen_ok, hlast, hleft, hold, hnew]
      simp [choose, Sem.run, Question.forced, nxtO]
    · have : y ∉ m.filter (fun x => !seen.contains x.2.2) := by rw [hGG]; exact List.not_mem_nil
      simp only [List.mem_filter, not_and] at this
      simpa using this hy
    · haveI := j.inst (Eq (.mapIter (some b) c (seen ++ []).toArray c))
      exact hS.re (b := bi) (p := Eq (.mapIter (some b) c (seen ++ []).toArray c)) ⟨_, hi, by rw [List.append_nil]⟩
  | cons g G' =>
    have hne : G ≠ [] := by rw [hc]; simp
    have hcand : (if (G.map (ent enc dec)).toArray.isEmpty = true then #[none] else #[]) ++ ((G.map (ent enc dec)).toArray ++ #[]).map some = ((G.map (ent enc dec)).map some).toArray := by
      rw [hc]; simp
    have hpick : ∃ x ∈ G, ∃ w1, w1.heap = w.heap ∧ w1.os = w.os ∧ w1.tape = w.tape ∧ w1.output = w.output ∧ ∃ q, (choose (.mapNext ((G.map (ent enc dec)).map some).toArray.size)).run P w = .ok q w1 ∧ ((G.map (ent enc dec)).map some).toArray[q]? = some (some (ent enc dec x)) := by
      have hl : ((G.map (ent enc dec)).map some).toArray.size = G.length := by simp
      have hpos : 0 < G.length := List.length_pos_iff.2 hne
      have hat : ∀ q, q < G.length → ∃ x ∈ G, ((G.map (ent enc dec)).map some).toArray[q]? = some (some (ent enc dec x)) := fun q hq => ⟨G[q], List.getElem_mem hq, by simp [hq]⟩
      by_cases hf : G.length ≤ 1
      · obtain ⟨x, hx1, hx2⟩ := hat 0 hpos
        refine ⟨x, hx1, w, rfl, rfl, rfl, rfl, 0, ?_, hx2⟩
        rw [hl, Go.run_choose_drew, if_pos (by simp [Question.forced, hf])]
      · obtain ⟨x, hx1, hx2⟩ := hat (w.tape w.drawn (.mapNext G.length) % G.length) (Nat.mod_lt _ hpos)
        refine ⟨x, hx1, w.drew, rfl, rfl, rfl, rfl, _, ?_, hx2⟩
        rw [hl, Go.run_choose_drew, if_neg (by simp [Question.forced, hf])]; rfl
    obtain ⟨x, hxG, w1, e1, e2, e3, e4, q, hq1, hq2⟩ := hpick
    have hset : (setObj bi (.mapIter (some b) c (seen ++ [x.2.2]).toArray c)).run P w1 = .ok () { w1 with heap := w1.heap.setIfInBounds bi (.mapIter (some b) c (seen ++ [x.2.2]).toArray c) } := by
      simp [setObj, Sem.run, e1, hi]
    have hlt := lt_of_heap hi
    have hput : Put bi (.mapIter (some b) c (seen ++ [x.2.2]).toArray c) w { w1 with heap := w1.heap.setIfInBounds bi (.mapIter (some b) c (seen ++ [x.2.2]).toArray c) } := by
      refine ⟨e2, e3, e4, by simp [e1], by simp [e1, hlt], fun k _ hk => ?_⟩
      show (w1.heap.setIfInBounds bi _)[k]? = _
      rw [Array.getElem?_setIfInBounds, if_neg (fun e => hk e.symm), e1]
    haveI := j.inst (Eq (.mapIter (some b) c (seen ++ ((some x).map (·.2.2)).toList).toArray c))
    refine sv (v := .tuple (nxtO enc dec (some x))) ?_ (h (some x) _ (fun y e => by cases e; exact hG x hxG) (fun e => (nomatch e)) (hS.puts (p := Eq (.mapIter (some b) c (seen ++ ((some x).map (·.2.2)).toList).toArray c)) hput (by simp)))
    simp only [Y, xop, execOp, hx, Instr.next, Sem.run_bind, h1 w rfl, h2 w rfl, Result.andThen_ok, hlast, hleft, hold, hnew, hcand, hq1, hq2, Bool.false_eq_true, if_false]
    have e9 : seen.toArray.push x.2.2 = (seen ++ [x.2.2]).toArray := by simp
    rw [show seen.toArray.push (ent enc dec x).born = (seen ++ [x.2.2]).toArray from e9]
    simp only [Sem.run_bind, hset, Result.andThen_ok]
    rfl
end
def fromA (a : Option Addr) (cap i k : Nat) : Option Addr := if cap = i then a else a.map (·.add (i * k))
section
variable {P : Program} {ρ : Operand → Value} {w : World} {ty : TypeId}
end
theorem Sl.drop {α : Type} {w : World} {k : Nat} {R : World → List Value → α → Prop} {a : Option Addr} {n cap i : Nat} {l : List α} (h : Sl w k R (.slice a n cap) l) (hi : i ≤ n) : Sl w k R (.slice (fromA a cap i k) (n - i) (cap - i)) (l.drop i) := by
 obtain ⟨a', cap', hv, h1, h2, h3⟩ := h
 simp only [Value.slice.injEq] at hv
 obtain ⟨rfl, rfl, rfl⟩ := hv
 refine ⟨_, _, by rw [List.length_drop], by rw [List.length_drop]; omega, by omega, fun j hj => ?_⟩
 rw [List.length_drop] at hj
 obtain ⟨b, o, cs, ha, hlc, hc, hr⟩ := h3 (i + j) (by omega)
 refine ⟨b, o + i * k, cs, ?_, hlc, ?_, by rw [List.getElem_drop]; exact hr⟩
 ·
  unfold fromA
  rw [if_neg (by omega), ha, Option.map_some, addr_add]
 ·
  rw [show o + i * k + j * k = o + (i + j) * k by rw [Nat.add_mul]; omega]; exact hc
theorem Sl.fit {α : Type} {w : World} {k : Nat} {R : World → List Value → α → Prop} {a : Option Addr} {n cap : Nat} {l : List α} (h : Sl w k R (.slice a n cap) l) : n ≤ cap := by
 obtain ⟨a', cap', hv, h1, -⟩ := h
 simp only [Value.slice.injEq] at hv
 omega
theorem out_cell {w : World} {g z : Nat} {vs : List Value} {v : Value} (h : Cells w g 0 vs) (hv : vs[z]? = some v) : w.cell? ⟨g, z * 1, none⟩ = some v := by
 have := h z v hv
 rwa [Nat.zero_add, ← Nat.mul_one z] at this
section
variable {P : Program} {ops : Array Oper} {S : List Nat} {w0 : World} {L : List Item} {n : Nat} {rest : List Oper} {f : Fr} {d : Nat} {ty : TypeId} {pos : String} {af : Array Edge} {w : World} {Q : Exit → Act → World → Prop} {ρ : Operand → Value}
/-- The method that a dynamic type has by a name, with the value for its receiver. -/
def Mth (P : Program) (T : TypeId) (name : String) (g : FuncId) (v : Value) : Prop := ∀ w, (Go.method (P.types.size + Made.depth) T v name).run P w = .ok (g, v) w
theorem inv_run {x : Operand} {T : TypeId} {v : Value} {name : String} {g : FuncId} {xs : List Operand} {ts : Array TypeId} {vs : List Value} (hx : ρ x = .iface T v) (hm : Mth P T name g v) (ha : Evs ρ xs vs) (hc : ∀ ars w, (callFunc g ars).run P w = .ok (.enter g ars) w) :
    (xop ρ (.call ⟨.invoke x name, xs.toArray, ts⟩) ty).run P w = .ok (.enter g (v :: vs).toArray) w := by
  unfold Evs at ha
  have hm' : (Go.method (P.types.size + 100) T v name).run P w = .ok (g, v) w := hm w
  have hp : Sem.run P (Sem.program Sem.pure) w = .ok P w := rfl
  simp only [xop, execOp, resolve, hx, Sem.run_bind, Sem.run_pure, Result.andThen_ok, invoke, callMethod, List.map_toArray, ha]
  simp [Sem.run_bind, callMethod, program, go_sem, hm', hp, hc, Result.andThen]
theorem sinv {x : Operand} {T : TypeId} {v : Value} {name : String} {g : FuncId} {xs : List Operand} {ts : Array TypeId} {vs : List Value} {R : Value → World → Prop} (hx : ev n f x = .iface T v) (hm : Mth P T name g v) (ha : Evs (ev n f) xs vs) (hc : ∀ ars w, (callFunc g ars).run P w = .ok (.enter g ars) w)
    (hC : CE P g (v :: vs).toArray w R) (h : ∀ v w', R v w' → wpL P ops Q n rest (upd f d v) w') : wpL P ops Q n (⟨some d, .call ⟨.invoke x name, xs.toArray, ts⟩, ty, pos, af, none⟩ :: rest) f w :=
  scallV (inv_run hx hm ha hc) hC h
end
section
variable {P : Program} {ops : Array Oper} {Q : Exit → Act → World → Prop} {C : World → Prop} {m : Nat} {nf : Nat} {f : Fr} {w : World}
theorem f_gd {fuel : Nat} {listed : Array Bool} {d j dj : Nat} {want : Bool} {op : Op} {ty : TypeId} {pos : String} {af : Array Edge} {v : Value} (k : Nat) (hB : goB ops m listed k = true) (hi : ops[k]? = some ⟨some d, op, ty, pos, af, some (j, want)⟩)
    (hQ : ∀ c a a' w, Q (.panic c) a w → Q (.panic c) a' w) (hC : C w) (hr : Free P ops C ⟨some d, op, ty, pos, af, some (j, want)⟩ v (mk nf f)) (h : wpA P ops Q C m fuel (listed.setIfInBounds k true) nf (upd f d v) w) : wpA P ops Q C m (fuel + 1) listed nf f w := by
  simp only [goB, Bool.and_eq_true] at hB
  obtain ⟨⟨⟨hs, hrd⟩, hfr⟩, hlate⟩ := hB
  refine wpAC_first (v := v) hi (Region.noSelect_spec hs) hQ ?_ fuel listed (mk nf f) w hC (Region.free_spec hi hfr) (by simpa using hrd) hr ?_
  · intro j oj hoj hm
    have h1 := List.all_eq_true.1 hlate j (List.mem_range.2 (Array.getElem?_eq_some_iff.1 hoj).1)
    simp only [Bool.or_eq_true, Nat.blt_eq] at h1
    obtain ⟨oj', hoj', e, he, hb, hon⟩ := Region.waitsFor_spec (h1.resolve_left (by omega))
    rw [hoj] at hoj'
    obtain rfl := Option.some.inj hoj'
    exact ⟨e, he, hb, hon⟩
  · show wpAC P .any ops Q C m fuel (listed.setIfInBounds k true) ((mk nf f).put (some d) v) w
    rw [mk_put]
    exact h
/-- It is wanted. -/
theorem f_go {fuel : Nat} {listed : Array Bool} {d j dj : Nat} {want : Bool} {op : Op} {ty : TypeId} {pos : String} {af : Array Edge} {v : Value} (k : Nat) (hB : goB ops m listed k = true) (hi : ops[k]? = some ⟨some d, op, ty, pos, af, some (j, want)⟩)
    (hd : dstOf ops j = some dj) (hn : Nat.blt dj nf = true) (hQ : ∀ c a a' w, Q (.panic c) a w → Q (.panic c) a' w) (hC : C w) (hb : f dj = .bool want) (hr : ∀ w, C w → Y P (ev nf f) op ty w v w)
    (h : wpA P ops Q C m fuel (listed.setIfInBounds k true) nf (upd f d v) w) : wpA P ops Q C m (fuel + 1) listed nf f w := by
  rw [Nat.blt_eq] at hn
  have hy := yielded_eq (f := f) hd hn
  rw [hb] at hy
  exact f_gd (dj := dj) k hB hi hQ hC (.inl ⟨by simp [Region.wanted, hy], fun w hC => by rw [mk_eval, execOp_xop, hr w hC]⟩) h
/-- It is not wanted. -/
theorem f_skip {fuel : Nat} {listed : Array Bool} {d j dj : Nat} {want : Bool} {op : Op} {ty : TypeId} {pos : String} {af : Array Edge} {u : Value} (k : Nat) (hB : goB ops m listed k = true) (hi : ops[k]? = some ⟨some d, op, ty, pos, af, some (j, want)⟩)
    (hd : dstOf ops j = some dj) (hn : Nat.blt dj nf = true) (hQ : ∀ c a a' w, Q (.panic c) a w → Q (.panic c) a' w) (hC : C w) (hb : f dj = u) (hu : u ≠ .bool want)
    (h : wpA P ops Q C m fuel (listed.setIfInBounds k true) nf (upd f d undef) w) : wpA P ops Q C m (fuel + 1) listed nf f w := by
  rw [Nat.blt_eq] at hn
  have hy := yielded_eq (f := f) hd hn
  rw [hb] at hy
  refine f_gd (dj := dj) k hB hi hQ hC (.inr ⟨?_, rfl⟩) h
  simp only [Region.wanted, hy]
  cases u <;> simp
  rename_i b
  intro hc
  exact hu (by rw [hc])
end
end Bx
