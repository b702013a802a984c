/- The steps of a walk over frames that are functions of the slot: one law for each kind of operation, each asking what the operands are and saying what the result is. -/
import Derived.WalkKit
import Derived.WalkLawsBesides
import Derived.Deep.Quiet
import Derived.Laws.Rows
set_option linter.all false
namespace Bx
open Go Go.RowKit

abbrev Fr := Nat → Value
def mk (n : Nat) (f : Fr) : Act := { tmps := ((List.range n).map f).toArray, defers := [] }
def upd (f : Fr) (d : Nat) (v : Value) : Fr := fun t => bif Nat.beq t d then v else f t
def ini (l : List Value) : Fr := fun t => l.getD t undef
def ev (n : Nat) (f : Fr) : Operand → Value
  | .tmp t => bif Nat.blt t n then f t else undef
  | .const v => v
  | .global g => .pointer (some ⟨g, 0, none⟩)
  | .func g => .func (.func g) #[] #[]

theorem mk_tmps (n : Nat) (f : Fr) (t : Nat) : (mk n f).tmps[t]? = if t < n then some (f t) else none := by
  simp only [mk, List.getElem?_toArray, List.getElem?_map]
  by_cases h : t < n <;> simp [h]

theorem upd_same (f : Fr) (d : Nat) (v : Value) : upd f d v d = v := by simp [upd]
theorem upd_other (f : Fr) (d t : Nat) (v : Value) (h : d ≠ t) : upd f d v t = f t := by
  have h' : Nat.beq t d = false := by
    cases hb : Nat.beq t d with
    | false => rfl
    | true => exact absurd (Nat.eq_of_beq_eq_true hb).symm h
  simp only [upd, h', cond_false]

theorem mk_put (n : Nat) (f : Fr) (d : Nat) (v : Value) : (mk n f).put (some d) v = mk n (upd f d v) := by
  simp only [Act.put, mk, Act.mk.injEq, and_true]
  apply Array.ext_getElem?
  intro t
  simp only [Array.getElem?_setIfInBounds, List.getElem?_toArray, List.getElem?_map, List.size_toArray, List.length_map, List.length_range]
  by_cases h : d = t
  · subst h
    by_cases h2 : d < n <;> simp [h2, upd_same]
  · by_cases h2 : t < n <;> simp [h, h2, upd_other]

theorem mk_eval (n : Nat) (f : Fr) : (mk n f).eval = ev n f := by
  funext x
  cases x with
  | tmp t =>
    simp only [Act.eval, ev, Array.getD_eq_getD_getElem?, mk_tmps]
    by_cases h : t < n
    · have : Nat.blt t n = true := by rw [Nat.blt_eq]; exact h
      simp [h, this]
    · have : Nat.blt t n = false := by
        cases hb : Nat.blt t n with
        | false => rfl
        | true => rw [Nat.blt_eq] at hb; exact absurd hb h
      simp [h, this]
  | _ => rfl

/-- What an operation does, its place in the text set aside. -/
def xop (ρ : Operand → Value) (op : Op) (ty : TypeId) : Sem Next := execOp ρ ⟨none, op, ty, "", #[], none⟩
theorem execOp_xop (ρ : Operand → Value) (d : Option Tmp) (op : Op) (ty : TypeId) (pos : String) (af : Array Edge) (g : Option (Nat × Bool)) : execOp ρ ⟨d, op, ty, pos, af, g⟩ = xop ρ op ty := by
  cases op <;> rfl

/-- The operation yields the value v and leaves the world w'. -/
def Y (P : Program) (ρ : Operand → Value) (op : Op) (ty : TypeId) (w : World) (v : Value) (w' : World) : Prop := (xop ρ op ty).run P w = .ok (.value v) w'

def wpL (P : Program) (ops : Array Oper) (Q : Exit → Act → World → Prop) (n : Nat) (l : List Oper) (f : Fr) (w : World) : Prop := wpList P ops Q l (mk n f) w

section
variable {P : Program} {ops : Array Oper} {Q : Exit → Act → World → Prop} {n : Nat} {l : List Oper} {f : Fr} {w w' : World} {rest : List Oper}

theorem region {id : Nat} {l : List Oper} (h : wpL P l.toArray Q n l f w) : (Code.region id l.toArray false).wp P Q (mk n f) w := wp_region_lit h

theorem wpL_run {o : Oper} (hg : o.guard = none) (h : o.wp P (mk n f) w (wpList P ops Q rest) Q) : wpL P ops Q n (o :: rest) f w := by
  unfold wpL
  unfold wpList
  rw [if_pos (by simp [Region.wanted, hg])]
  exact .inl h

/-- The step of an operation that yields a value. -/
theorem sv {d : Nat} {op : Op} {ty : TypeId} {pos : String} {af : Array Edge} {v : Value} (hr : Y P (ev n f) op ty w v w') (h : wpL P ops Q n rest (upd f d v) w') :
    wpL P ops Q n (⟨some d, op, ty, pos, af, none⟩ :: rest) f w := by
  refine wpL_run rfl ?_
  unfold Oper.wp
  rw [mk_eval, execOp_xop, hr]
  show wpList P ops Q rest ((mk n f).put (some d) v) w'
  rw [mk_put]
  exact h

theorem nil (h : Q .normal (mk n f) w) : wpL P ops Q n [] f w := h

/-! ### guarded operations -/
def dstOf (ops : Array Oper) (j : Nat) : Option Nat := (ops[j]?).bind (·.dst)
def Cnd (G : Prop) (v' v : Value) : Prop := (G → v' = v) ∧ (¬ G → v' = undef)

theorem yielded_eq {j d : Nat} (hd : dstOf ops j = some d) (hn : d < n) : yielded ops (mk n f).tmps j = (match f d with | .bool b => some b | _ => none) := by
  unfold yielded
  unfold dstOf at hd
  rw [hd]
  simp only [Option.bind_some, mk_tmps, hn, if_true]
  cases f d <;> rfl

theorem wpL_guard {j : Nat} {want : Bool} {dj d : Nat} {op : Op} {ty : TypeId} {pos : String} {af : Array Edge} (hd : dstOf ops j = some dj) (hn : Nat.blt dj n = true) {G : Prop} {v : Value}
    (hG : G ↔ f dj = .bool want)
    (hr : G → Y P (ev n f) op ty w v w)
    (h : ∀ v', Cnd G v' v → wpL P ops Q n rest (upd f d v') w) :
    wpL P ops Q n (⟨some d, op, ty, pos, af, some (j, want)⟩ :: rest) f w := by
  rw [Nat.blt_eq] at hn
  unfold wpL
  unfold wpList
  have hy := yielded_eq (f := f) hd hn
  by_cases g : G
  · have hf := hG.1 g
    rw [hf] at hy
    rw [if_pos (by simp [Region.wanted, hy])]
    left
    unfold Oper.wp
    rw [mk_eval, execOp_xop, hr g]
    show wpList P ops Q rest ((mk n f).put (some d) v) w
    rw [mk_put]
    exact h v ⟨fun _ => rfl, fun hn => absurd g hn⟩
  · have hf : f dj ≠ .bool want := fun e => g (hG.2 e)
    rw [if_neg (by
      simp only [Region.wanted, hy]
      intro hc
      cases hv : f dj <;> simp [hv] at hc
      rename_i b
      exact hf (by rw [hv, hc]))]
    show wpList P ops Q rest ((mk n f).put (some d) undef) w
    rw [mk_put]
    exact h undef ⟨fun hg => absurd hg g, fun _ => rfl⟩

/-- A guarded operation, whose guard's slot holds the bool B. -/
theorem sg {j : Nat} {want : Bool} {dj d : Nat} {op : Op} {ty : TypeId} {pos : String} {af : Array Edge} {B : Bool} {v : Value} (hd : dstOf ops j = some dj) (hn : Nat.blt dj n = true)
    (hb : f dj = .bool B) (hr : B = want → Y P (ev n f) op ty w v w)
    (h : ∀ v', Cnd (B = want) v' v → wpL P ops Q n rest (upd f d v') w) :
    wpL P ops Q n (⟨some d, op, ty, pos, af, some (j, want)⟩ :: rest) f w :=
  wpL_guard hd hn (by rw [hb]; simp) hr h

/-- A guarded operation, whose guard's slot was itself written under a guard. -/
theorem sgg {j : Nat} {want : Bool} {dj d : Nat} {op : Op} {ty : TypeId} {pos : String} {af : Array Edge} {B : Bool} {v : Value} {Gj : Prop} (hd : dstOf ops j = some dj) (hn : Nat.blt dj n = true)
    (hb : Cnd Gj (f dj) (.bool B)) (hr : Gj ∧ B = want → Y P (ev n f) op ty w v w)
    (h : ∀ v', Cnd (Gj ∧ B = want) v' v → wpL P ops Q n rest (upd f d v') w) :
    wpL P ops Q n (⟨some d, op, ty, pos, af, some (j, want)⟩ :: rest) f w :=
  wpL_guard hd hn (by
    constructor
    · rintro ⟨g, rfl⟩; exact hb.1 g
    · intro e
      by_cases g : Gj
      · refine ⟨g, ?_⟩
        have := (hb.1 g).symm.trans e
        simpa using this
      · have := (hb.2 g).symm.trans e
        simp [undef] at this) hr h
end

/-! ### what the plain operations yield -/
section
variable {P : Program} {ρ : Operand → Value} {w : World} {ty : TypeId}
theorem yMove {x : Operand} {v : Value} (hx : ρ x = v) : Y P ρ (.move x) ty w v w := by subst hx; rfl
theorem yAsg {x : Operand} {v : Value} (hx : ρ x = v) : Y P ρ (.assign x) ty w v w := by subst hx; rfl
theorem yLss {x y : Operand} {k : IntKind} {a b : Int} {t t' : TypeId} (hx : ρ x = .int k a) (hy : ρ y = .int k b) : Y P ρ (.binOp .lss t x y t') ty w (.bool (decide (a < b))) w := by
  simp [Y, xop, execOp, hx, hy, eqGuard, binOp, Op.intCmp]
theorem yLeq {x y : Operand} {k : IntKind} {a b : Int} {t t' : TypeId} (hx : ρ x = .int k a) (hy : ρ y = .int k b) : Y P ρ (.binOp .leq t x y t') ty w (.bool (decide (a ≤ b))) w := by
  simp [Y, xop, execOp, hx, hy, eqGuard, binOp, Op.intCmp]
theorem yGtr {x y : Operand} {k : IntKind} {a b : Int} {t t' : TypeId} (hx : ρ x = .int k a) (hy : ρ y = .int k b) : Y P ρ (.binOp .gtr t x y t') ty w (.bool (decide (b < a))) w := by
  simp [Y, xop, execOp, hx, hy, eqGuard, binOp, Op.intCmp]
theorem yGeq {x y : Operand} {k : IntKind} {a b : Int} {t t' : TypeId} (hx : ρ x = .int k a) (hy : ρ y = .int k b) : Y P ρ (.binOp .geq t x y t') ty w (.bool (decide (b ≤ a))) w := by
  simp [Y, xop, execOp, hx, hy, eqGuard, binOp, Op.intCmp]
theorem yEql {x y : Operand} {k : IntKind} {a b : Int} {t t' : TypeId} (hx : ρ x = .int k a) (hy : ρ y = .int k b) : Y P ρ (.binOp .eql t x y t') ty w (.bool (decide (a = b))) w := by
  have : (a == b) = decide (a = b) := by by_cases h : a = b <;> simp [h]
  simp [Y, xop, execOp, hx, hy, eqGuard, binOp, Op.intCmp, this]
theorem yNeq {x y : Operand} {k : IntKind} {a b : Int} {t t' : TypeId} (hx : ρ x = .int k a) (hy : ρ y = .int k b) : Y P ρ (.binOp .neq t x y t') ty w (.bool (decide (a ≠ b))) w := by
  have : (a != b) = decide (a ≠ b) := by by_cases h : a = b <;> simp [h]
  simp [Y, xop, execOp, hx, hy, eqGuard, binOp, Op.intCmp, this]
theorem yAddW {x y : Operand} {k : IntKind} {a b : Int} {t t' : TypeId} (hx : ρ x = .int k a) (hy : ρ y = .int k b) : Y P ρ (.binOp .add t x y t') ty w (.int k (k.wrap (a + b))) w := by
  simp [Y, xop, execOp, hx, hy, eqGuard, binOp, Op.intArith]
theorem ySubW {x y : Operand} {k : IntKind} {a b : Int} {t t' : TypeId} (hx : ρ x = .int k a) (hy : ρ y = .int k b) : Y P ρ (.binOp .sub t x y t') ty w (.int k (k.wrap (a - b))) w := by
  simp [Y, xop, execOp, hx, hy, eqGuard, binOp, Op.intArith]
theorem yMulW {x y : Operand} {k : IntKind} {a b : Int} {t t' : TypeId} (hx : ρ x = .int k a) (hy : ρ y = .int k b) : Y P ρ (.binOp .mul t x y t') ty w (.int k (k.wrap (a * b))) w := by
  simp [Y, xop, execOp, hx, hy, eqGuard, binOp, Op.intArith]
def I64 (a : Int) : Prop := -9223372036854775808 ≤ a ∧ a ≤ 9223372036854775807
theorem wrap_in {a : Int} (h : I64 a) : IntKind.i64.wrap a = a := IntWalk.i64_in a h
theorem yAdd {x y : Operand} {a b : Int} {t t' : TypeId} (hx : ρ x = .int .i64 a) (hy : ρ y = .int .i64 b) (h : I64 (a + b)) : Y P ρ (.binOp .add t x y t') ty w (.int .i64 (a + b)) w := by
  have := yAddW (P := P) (w := w) (ty := ty) (t := t) (t' := t') hx hy
  rwa [wrap_in h] at this
theorem ySub {x y : Operand} {a b : Int} {t t' : TypeId} (hx : ρ x = .int .i64 a) (hy : ρ y = .int .i64 b) (h : I64 (a - b)) : Y P ρ (.binOp .sub t x y t') ty w (.int .i64 (a - b)) w := by
  have := ySubW (P := P) (w := w) (ty := ty) (t := t) (t' := t') hx hy
  rwa [wrap_in h] at this
theorem yMul {x y : Operand} {a b : Int} {t t' : TypeId} (hx : ρ x = .int .i64 a) (hy : ρ y = .int .i64 b) (h : I64 (a * b)) : Y P ρ (.binOp .mul t x y t') ty w (.int .i64 (a * b)) w := by
  have := yMulW (P := P) (w := w) (ty := ty) (t := t) (t' := t') hx hy
  rwa [wrap_in h] at this
theorem yNot {x : Operand} {b : Bool} {t : TypeId} (hx : ρ x = .bool b) : Y P ρ (.unOp .not t x) ty w (.bool (!b)) w := by
  simp [Y, xop, execOp, hx, Op.unary]
theorem yLenS {x : Operand} {s : ByteArray} {t : TypeId} (hx : ρ x = .string s) (ht : P.underlying t = some .string) : Y P ρ (.call ⟨.builtin .len, #[x], #[t]⟩) ty w (.int .i64 s.size) w := by
  simp [Y, xop, execOp, hx, resolve, invoke, builtin, Builtin.len_, goInt, run_underlying ht]
theorem yLen {x : Operand} {a : Option Addr} {l c : Nat} {t e : TypeId} (hx : ρ x = .slice a l c) (ht : P.underlying t = some (.slice e)) : Y P ρ (.call ⟨.builtin .len, #[x], #[t]⟩) ty w (.int .i64 l) w := by
  simp [Y, xop, execOp, hx, resolve, invoke, builtin, Builtin.len_, goInt, run_underlying ht]
theorem yPick {c a b : Operand} {B : Bool} {v : Value} (hc : ρ c = .bool B) (ha : B = true → ρ a = v) (hb : B = false → ρ b = v) : Y P ρ (.pick c a b) ty w v w := by
  cases B
  · simp [Y, xop, execOp, hc, hb rfl, asBool]
  · simp [Y, xop, execOp, hc, ha rfl, asBool]
theorem yAnd {c a b : Operand} {B C : Bool} (hc : ρ c = .bool B) (ha : B = true → ρ a = .bool C) (hb : ρ b = .bool false) : Y P ρ (.pick c a b) ty w (.bool (B && C)) w := by
  cases B
  · simp [Y, xop, execOp, hc, hb, asBool]
  · simp [Y, xop, execOp, hc, ha rfl, asBool]
theorem yOr {c a b : Operand} {B C : Bool} (hc : ρ c = .bool B) (ha : ρ a = .bool true) (hb : B = false → ρ b = .bool C) : Y P ρ (.pick c a b) ty w (.bool (B || C)) w := by
  cases B
  · simp [Y, xop, execOp, hc, hb rfl, asBool]
  · simp [Y, xop, execOp, hc, ha, asBool]
theorem yExt {t : Operand} {vs : Array Value} {i : Nat} {v : Value} (hx : ρ t = .tuple vs) (hv : vs[i]? = some v) : Y P ρ (.extract t i) ty w v w := by
  simp [Y, xop, execOp, hx, Instr.extract, hv]
theorem yIxS {x i : Operand} {s : ByteArray} {k : IntKind} {m : Nat} {b : UInt8} {t : TypeId} (hx : ρ x = .string s) (hi : ρ i = .int k m) (ht : P.underlying t = some .string) (hb : s[m]? = some b) :
    Y P ρ (.index t x i) ty w (.int .u8 b.toNat) w := by
  simp [Y, xop, execOp, hx, hi, Instr.index, run_underlying ht, hb, asIntOf]
theorem bytesEq (a b : ByteArray) : (a.toList == b.toList) = decide (a = b) := by
  rw [ByteArray.toList_eq, ByteArray.toList_eq]
  by_cases h : a = b
  · simp [h]
  · have : ¬ a.data = b.data := fun e => h (ByteArray.ext e)
    simp [h, this]
theorem ySEq {x y : Operand} {a b : ByteArray} {t t' : TypeId} (hx : ρ x = .string a) (hy : ρ y = .string b) : Y P ρ (.binOp .eql t x y t') ty w (.bool (decide (a = b))) w := by
  simp [Y, xop, execOp, hx, hy, eqGuard, binOp, Op.stringOp, bytesEq]
theorem ySNe {x y : Operand} {a b : ByteArray} {t t' : TypeId} (hx : ρ x = .string a) (hy : ρ y = .string b) : Y P ρ (.binOp .neq t x y t') ty w (.bool (decide (a ≠ b))) w := by
  simp [Y, xop, execOp, hx, hy, eqGuard, binOp, Op.stringOp, bytesEq]
theorem yBEq {x y : Operand} {a b : Bool} {t t' : TypeId} (hx : ρ x = .bool a) (hy : ρ y = .bool b) (ht : P.underlying t = some .bool) : Y P ρ (.binOp .eql t x y t') ty w (.bool (a == b)) w := by
  have h := run_eql_bool (P := P) w t a b ht
  simp [Y, xop, execOp, hx, hy, eqGuard, h]
end
end Bx
