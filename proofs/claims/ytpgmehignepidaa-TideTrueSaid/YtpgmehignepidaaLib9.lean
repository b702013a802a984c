/- Further operations: conversions of integers and shifts. -/
import Derived.Test.YtpgmehignepidaaLib8
set_option linter.all false
namespace Bx
open Go Go.RowKit
section
variable {P : Program} {ρ : Operand → Value} {w : World} {ty : TypeId}
theorem yConvW {x : Operand} {k k' : IntKind} {a : Int} {s d : TypeId} {ts : TypeDesc} (hx : ρ x = .int k a) (hs : P.underlying s = some ts) (hd : P.underlying d = some (.int k')) : Y P ρ (.convert s d x) ty w (.int k' (k'.wrap a)) w := by
  simp [Y, xop, execOp, hx, convert, Conv.intToInt, run_underlying hs, run_underlying hd]
theorem yToU {x : Operand} {a : Int} {s d : TypeId} {ts : TypeDesc} (hx : ρ x = .int .i64 a) (hs : P.underlying s = some ts) (hd : P.underlying d = some (.int .u64)) (ha : 0 ≤ a ∧ a ≤ 18446744073709551615) : Y P ρ (.convert s d x) ty w (.int .u64 a) w :=
  Y.to (yConvW hx hs hd) (by rw [IntWalk.u64_in a ha])
theorem yToI {x : Operand} {a : Int} {s d : TypeId} {ts : TypeDesc} {k : IntKind} (hx : ρ x = .int k a) (hs : P.underlying s = some ts) (hd : P.underlying d = some (.int .i64)) (ha : I64 a) : Y P ρ (.convert s d x) ty w (.int .i64 a) w :=
  Y.to (yConvW hx hs hd) (by rw [wrap_in ha])
theorem yShr1 {x y : Operand} {a : Int} {t t' : TypeId} (hx : ρ x = .int .u64 a) (hy : ρ y = .int .u64 1) : Y P ρ (.binOp .shr t x y t') ty w (.int .u64 (a / 2)) w := by
  simp [Y, xop, execOp, hx, hy, eqGuard, binOp, Op.shift, IntKind.bits, Int.fdiv_eq_ediv]
end
end Bx
namespace Bx
open Go Go.RowKit
/-- The middle of a row of cells. -/
theorem Cells.mid {w : World} {b o : Nat} {vs xs : List Value} (h : Cells w b o vs) (j : Nat) (hx : (vs.drop j).take xs.length = xs) : Cells w b (o + j) xs := by
  intro i v hv
  have hi : i < xs.length := (List.getElem?_eq_some_iff.1 hv).1
  rw [← hx, List.getElem?_take, if_pos hi, List.getElem?_drop] at hv
  rw [Nat.add_assoc]; exact h _ _ hv
end Bx
namespace Bx
open Go Go.RowKit
section
variable {P : Program} {ops : Array Oper} {Q : Exit → Act → World → Prop} {n : Nat} {rest : List Oper} {f : Fr} {S : List Nat} {w0 w : World} {L : List Item} {d : Nat} {ty : TypeId} {pos : String} {af : Array Edge}
theorem wpL_gcallf {j : Nat} {want : Bool} {dj : Nat} {fx : Operand} {g : FuncId} {xs : List Operand} {ts : Array TypeId} {vs cl : List Value} {v : Value} {G : Prop} (hS : StX S w0 w L) (hd : dstOf ops j = some dj) (hn : Nat.blt dj n = true) (hG : G ↔ f dj = .bool want)
    (hf : G → ev n f fx = .func (.func g) #[] cl.toArray) (hc : ∀ as w, (callFunc g as).run P w = .ok (.enter g as) w) (ha : G → Evs (ev n f) xs vs) (hC : G → CV P g (vs ++ cl).toArray w v)
    (h : ∀ v' w', StX S w0 w' L → Cnd G v' v → wpL P ops Q n rest (upd f d v') w') :
    wpL P ops Q n (⟨some d, .call ⟨.value fx, xs.toArray, ts⟩, ty, pos, af, some (j, want)⟩ :: rest) f w := by
  rw [Nat.blt_eq] at hn
  have hy := yielded_eq (f := f) hd hn
  by_cases g' : G
  · have hfj := hG.1 g'
    have := scallf (P := P) (ops := ops) (Q := Q) (rest := rest) (d := d) (ty := ty) (pos := pos) (af := af) (ts := ts) (hf g') hc (ha g') (hC g') (fun v' w' (hR : v' = v ∧ Ext w w') => h v' w' (hS.step hR.2) ⟨fun _ => hR.1, fun hn => absurd g' hn⟩)
    unfold wpL at this ⊢
    unfold wpList at this ⊢
    rw [hfj] at hy
    rw [if_pos (by simp [Region.wanted, hy])]
    rw [if_pos (by simp [Region.wanted])] at this
    exact this
  · have hfj : f dj ≠ .bool want := fun e => g' (hG.2 e)
    unfold wpL
    unfold wpList
    rw [if_neg (by
      simp only [Region.wanted, hy]
      intro hc
      cases hv : f dj <;> simp [hv] at hc
      rename_i b
      exact hfj (by rw [hv, hc]))]
    show wpList P ops Q rest ((mk n f).put (some d) undef) w
    rw [mk_put]
    exact h undef w hS ⟨fun hg => absurd hg g', fun _ => rfl⟩
theorem sgcf {j : Nat} {want : Bool} {dj : Nat} {fx : Operand} {g : FuncId} {xs : List Operand} {ts : Array TypeId} {vs cl : List Value} {v : Value} {B : Bool} (hS : StX S w0 w L) (hd : dstOf ops j = some dj) (hn : Nat.blt dj n = true) (hb : f dj = .bool B)
    (hf : B = want → ev n f fx = .func (.func g) #[] cl.toArray) (hc : ∀ as w, (callFunc g as).run P w = .ok (.enter g as) w) (ha : B = want → Evs (ev n f) xs vs) (hC : B = want → CV P g (vs ++ cl).toArray w v)
    (h : ∀ v' w', StX S w0 w' L → Cnd (B = want) v' v → wpL P ops Q n rest (upd f d v') w') :
    wpL P ops Q n (⟨some d, .call ⟨.value fx, xs.toArray, ts⟩, ty, pos, af, some (j, want)⟩ :: rest) f w :=
  wpL_gcallf hS hd hn (by rw [hb]; simp) hf hc ha hC h
theorem sggcf {j : Nat} {want : Bool} {dj : Nat} {fx : Operand} {g : FuncId} {xs : List Operand} {ts : Array TypeId} {vs cl : List Value} {v : Value} {B : Bool} {Gj : Prop} (hS : StX S w0 w L) (hd : dstOf ops j = some dj) (hn : Nat.blt dj n = true) (hb : Cnd Gj (f dj) (.bool B))
    (hf : Gj ∧ B = want → ev n f fx = .func (.func g) #[] cl.toArray) (hc : ∀ as w, (callFunc g as).run P w = .ok (.enter g as) w) (ha : Gj ∧ B = want → Evs (ev n f) xs vs) (hC : Gj ∧ B = want → CV P g (vs ++ cl).toArray w v)
    (h : ∀ v' w', StX S w0 w' L → Cnd (Gj ∧ B = want) v' v → wpL P ops Q n rest (upd f d v') w') :
    wpL P ops Q n (⟨some d, .call ⟨.value fx, xs.toArray, ts⟩, ty, pos, af, some (j, want)⟩ :: rest) f w :=
  wpL_gcallf hS hd hn (cnd_iff hb) hf hc ha hC h
end
end Bx
namespace Bx
open Go Go.RowKit
theorem yLenM {P : Program} {ρ : Operand → Value} {w : World} {ty : TypeId} {κ : Type} [DecidableEq κ] {enc : κ → Value} {m : List (κ × Value)} {x : Operand} {b : Nat} {T K E : TypeId} (hx : ρ x = .map (some b)) (ht : P.underlying T = some (.map K E)) (hb : ∃ o, w.heap[b]? = some o ∧ MapOk enc m o) :
    Y P ρ (.call ⟨.builtin .len, #[x], #[T]⟩) ty w (.int .i64 m.length) w := by
  obtain ⟨o, hb, es, c, rfl, hm⟩ := hb
  have hget : (getObj b).run P w = .ok (.map es c) w := by simp [getObj, Sem.run, hb]
  have hl : es.size = m.length := by have := congrArg List.length hm; simpa using this
  simp [Y, xop, execOp, hx, resolve, invoke, builtin, Builtin.len_, goInt, run_underlying ht, hget, hl]
/-- Rows of cells and what they read as. -/
def Rows {α : Type} (w : World) (k : Nat) (R : World → List Value → α → Prop) : List (List Value) → List α → Prop
  | [], [] => True
  | cs :: css, x :: l => cs.length = k ∧ R w cs x ∧ Rows w k R css l
  | _, _ => False
theorem Rows.get {α : Type} {w : World} {k : Nat} {R : World → List Value → α → Prop} : ∀ {css : List (List Value)} {l : List α}, Rows w k R css l → ∀ i (h : i < l.length), ∃ cs, css[i]? = some cs ∧ cs.length = k ∧ R w cs l[i] ∧ ∀ j, j < k → css.flatten[i * k + j]? = cs[j]?
  | [], [], _, i, h => absurd h (Nat.not_lt_zero i)
  | cs :: css, x :: l, ⟨h1, h2, h3⟩, 0, _ => ⟨cs, rfl, h1, h2, fun j hj => by rw [List.flatten_cons, Nat.zero_mul, Nat.zero_add, List.getElem?_append_left (by omega)]⟩
  | cs :: css, x :: l, ⟨h1, h2, h3⟩, i + 1, h => by
    obtain ⟨c, e1, e2, e3, e4⟩ := Rows.get h3 i (by simpa using h)
    refine ⟨c, e1, e2, e3, fun j hj => ?_⟩
    rw [List.flatten_cons, Nat.succ_mul, List.getElem?_append_right (by omega), ← e4 j hj]
    congr 1; omega
theorem sl_of_blk {α : Type} {w : World} {b k : Nat} {T : TypeId} {R : World → List Value → α → Prop} {css : List (List Value)} {l : List α} {v : Value} {cells : List Value} (hb : w.heap[b]? = some (.cells cells.toArray T (0, 0))) (hc : cells = css.flatten) (hr : Rows w k R css l) (hl : l.length ≤ 1000) (hv : v = .slice (some ⟨b, 0, none⟩) l.length l.length) : Sl w k R v l := by
  subst hc hv
  refine ⟨some ⟨b, 0, none⟩, l.length, rfl, Nat.le_refl _, by omega, fun i hi => ?_⟩
  obtain ⟨cs, _, e2, e3, e4⟩ := hr.get i hi
  refine ⟨b, 0, cs, rfl, e2, fun j v hv => ?_, e3⟩
  have hj : j < k := by have := (List.getElem?_eq_some_iff.1 hv).1; omega
  have := e4 j hj
  rw [hv] at this
  rw [Nat.zero_add]
  exact cell_of hb this
end Bx
namespace Bx
instance (a : Int) : Decidable (I64 a) := inferInstanceAs (Decidable (_ ∧ _))
end Bx
namespace Bx
open Go Go.RowKit
theorem rc1 {P : Program} {n : Nat} {f : Fr} {w : World} {a T : Nat} {b o : Nat} {cs : List Value} {v : Value} {t : TypeId} {fr : Nat × Nat} (hp : ev n f (.tmp a) = .pointer (some ⟨b, o, none⟩)) (hT : ∀ w, (isAgg T).run P w = .ok false w)
    (hb : w.heap[b]? = some (.cells cs.toArray t fr)) (hv : cs[o]? = some v) : RVal P n f w (.cell a T) v := by
  have h := yLdB (P := P) (ty := 0) (ρ := ev n f) (a := .tmp a) (w := w) hp hT hb hv
  simp only [Y, xop, execOp, hp, Instr.loadAt, Instr.sureAddr, Sem.run_bind, Sem.run_pure, Result.andThen_ok] at h
  simp only [RVal, rsem, getD_mk, hp, Sem.run_bind, asAddr, Sem.run_pure, Result.andThen_ok]
  cases hr : (loadVar T ⟨b, o, none⟩).run P w with
  | ok v w' =>
    rw [hr] at h
    simp only [Result.andThen_ok, Result.ok.injEq, Next.value.injEq] at h
    rw [h.1, h.2]
  | halt e w' => rw [hr] at h; simp at h
end Bx
namespace Bx
open Go Go.RowKit
/-- A frame is as good as another one of which the same is known. -/
theorem cutK {P : Program} {Q : Exit → Act → World → Prop} {n : Nat} {f : Fr} {w : World} {c : Code} (I : Fr → Prop) (hI : I f) (h : ∀ f, I f → c.wp P Q (mk n f) w) : c.wp P Q (mk n f) w := h f hI
end Bx
namespace Bx
open Go Go.RowKit
/-- Two statements, and what holds between them. -/
theorem seqJ {P : Program} {Q : Exit → Act → World → Prop} {n : Nat} {a : Act} {w : World} {x y : Code} (I : Fr → World → Prop) (hx : x.wp P (Exit.then (fun a w => ∃ f, a = mk n f ∧ I f w) Q) a w) (hy : ∀ f w, I f w → y.wp P Q (mk n f) w) : (Code.seq x y).wp P Q a w := by
  refine wp_seq (wp_mono hx ?_)
  intro e a w h
  cases e with
  | normal => obtain ⟨f, rfl, hI⟩ := h; exact hy f w hI
  | _ => exact h
end Bx
namespace Bx
open Go Go.RowKit
theorem yFld {P : Program} {ρ : Operand → Value} {w : World} {ty : TypeId} {x : Operand} {T : TypeId} {i : Nat} {fs : Array Field} {fl : Field} {cs : List Value} {v : Value} (hx : ρ x = .agg cs.toArray) (hu : P.underlying T = some (.struct fs)) (hf : fs[i]? = some fl)
    (ha : ∀ w, (isAgg fl.type).run P w = .ok false w) (hv : cs[fl.offset]? = some v) : Y P ρ (.field T x i) ty w v w := by
  refine yField hx (run_underlying hu) hf (fun w => ?_)
  have hv' : cs.toArray[fl.offset]? = some v := by simpa using hv
  simp [part, ha w, hv']
theorem yFldA {P : Program} {ρ : Operand → Value} {w : World} {ty : TypeId} {x : Operand} {T : TypeId} {i k : Nat} {fs : Array Field} {fl : Field} {cs vs : List Value} (hx : ρ x = .agg cs.toArray) (hu : P.underlying T = some (.struct fs)) (hf : fs[i]? = some fl)
    (ha : ∀ w, (isAgg fl.type).run P w = .ok true w) (hs : ∀ w, (Go.sizeOf fl.type).run P w = .ok k w) (hv : (cs.drop fl.offset).take k = vs) : Y P ρ (.field T x i) ty w (.agg vs.toArray) w := by
  refine yField hx (run_underlying hu) hf (fun w => ?_)
  have : cs.toArray.extract fl.offset (fl.offset + k) = vs.toArray := by
    rw [← hv, List.extract_toArray]; congr 1; rw [List.extract_eq_drop_take]; congr 1; omega
  simp [part, ha w, hs w, this, hv]
end Bx
