/- Guarded calls; statements that draw their order. -/
import Derived.Test.YtpgmehignepidaaLib3
set_option linter.all false
namespace Bx
open Go Go.RowKit

section
variable {P : Program} {ρ : Operand → Value} {w : World} {ty : TypeId}
theorem yMax {x y : Operand} {k : IntKind} {a b : Int} {t t' : TypeId} (hx : ρ x = .int k a) (hy : ρ y = .int k b) : Y P ρ (.call ⟨.builtin .max, #[x, y], #[t, t']⟩) ty w (.int k (max a b)) w := by
  have : (if b > a then b else a) = max a b := by rw [Int.max_def]; split <;> split <;> omega
  simp [Y, xop, execOp, hx, hy, resolve, invoke, builtin, Builtin.max_, Builtin.max2, this]
theorem yMin {x y : Operand} {k : IntKind} {a b : Int} {t t' : TypeId} (hx : ρ x = .int k a) (hy : ρ y = .int k b) : Y P ρ (.call ⟨.builtin .min, #[x, y], #[t, t']⟩) ty w (.int k (min a b)) w := by
  have : (if b < a then b else a) = min a b := by rw [Int.min_def]; split <;> split <;> omega
  simp [Y, xop, execOp, hx, hy, resolve, invoke, builtin, Builtin.min_, Builtin.min2, this]
theorem yNeg {x : Operand} {a : Int} {t : TypeId} (hx : ρ x = .int .i64 a) (h : I64 (-a)) : Y P ρ (.unOp .neg t x) ty w (.int .i64 (-a)) w := by
  have e := wrap_in h
  simp [Y, xop, execOp, hx, Op.unary, Op.intArith, e]
theorem yQuo {x y : Operand} {a b : Int} {t t' : TypeId} (hx : ρ x = .int .i64 a) (hy : ρ y = .int .i64 b) (hb : 0 < b) (ha : -9223372036854775807 ≤ a ∧ a ≤ 9223372036854775807) : Y P ρ (.binOp .quo t x y t') ty w (.int .i64 (a.tdiv b)) w := by
  have h0 : b ≠ 0 := by omega
  have e : IntKind.i64.wrap (a.tdiv b) = a.tdiv b := by
    obtain ⟨h1, h2⟩ := ha
    have := Int.natAbs_tdiv_le_natAbs a b
    exact wrap_in ⟨by omega, by omega⟩
  simp [Y, xop, execOp, hx, hy, eqGuard, binOp, Op.intDiv, h0, e]
theorem yRem {x y : Operand} {a b : Int} {t t' : TypeId} (hx : ρ x = .int .i64 a) (hy : ρ y = .int .i64 b) (hb : 0 < b) : Y P ρ (.binOp .rem t x y t') ty w (.int .i64 (a.tmod b)) w := by
  have h0 : b ≠ 0 := by omega
  simp [Y, xop, execOp, hx, hy, eqGuard, binOp, Op.intDiv, h0]
end

section
variable {P : Program} {ops : Array Oper} {Q : Exit → Act → World → Prop} {n : Nat} {f : Fr} {S : List Nat} {w0 w w' : World} {L : List Item} {rest : List Oper} {d : Nat} {ty : TypeId} {pos : String} {af : Array Edge}

/-! ### a guarded call in a plain statement -/
theorem wpL_gcall {j : Nat} {want : Bool} {dj : Nat} {g : FuncId} {xs : List Operand} {ts : Array TypeId} {vs : List Value} {v : Value} (hS : StX S w0 w L) (hd : dstOf ops j = some dj) (hn : Nat.blt dj n = true) {G : Prop}
    (hG : G ↔ f dj = .bool want) (hc : ∀ as w, (callFunc g as).run P w = .ok (.enter g as) w) (ha : G → Evs (ev n f) xs vs) (hC : G → CV P g vs.toArray w v)
    (h : ∀ v' w', StX S w0 w' L → Cnd G v' v → wpL P ops Q n rest (upd f d v') w') :
    wpL P ops Q n (⟨some d, .call ⟨.value (.func g), xs.toArray, ts⟩, ty, pos, af, some (j, want)⟩ :: rest) f w := by
  rw [Nat.blt_eq] at hn
  have hy := yielded_eq (f := f) hd hn
  by_cases g' : G
  · have hf := hG.1 g'
    have := scall (P := P) (ops := ops) (Q := Q) (rest := rest) (d := d) (ty := ty) (pos := pos) (af := af) (ts := ts) hc (ha g') (hC g') (fun v' w' (hR : v' = v ∧ Ext w w') => h v' w' (hS.step hR.2) ⟨fun _ => hR.1, fun hn => absurd g' hn⟩)
    unfold wpL at this ⊢
    unfold wpList at this ⊢
    rw [hf] at hy
    rw [if_pos (by simp [Region.wanted, hy])]
    rw [if_pos (by simp [Region.wanted])] at this
    exact this
  · have hf : f dj ≠ .bool want := fun e => g' (hG.2 e)
    unfold wpL
    unfold wpList
    rw [if_neg (by
      simp only [Region.wanted, hy]
      intro hc
      cases hv : f dj <;> simp [hv] at hc
      rename_i b
      exact hf (by rw [hv, hc]))]
    show wpList P ops Q rest ((mk n f).put (some d) undef) w
    rw [mk_put]
    exact h undef w hS ⟨fun hg => absurd hg g', fun _ => rfl⟩
theorem sgc {j : Nat} {want : Bool} {dj : Nat} {g : FuncId} {xs : List Operand} {ts : Array TypeId} {vs : List Value} {v : Value} {B : Bool} (hS : StX S w0 w L) (hd : dstOf ops j = some dj) (hn : Nat.blt dj n = true) (hb : f dj = .bool B)
    (hc : ∀ as w, (callFunc g as).run P w = .ok (.enter g as) w) (ha : B = want → Evs (ev n f) xs vs) (hC : B = want → CV P g vs.toArray w v)
    (h : ∀ v' w', StX S w0 w' L → Cnd (B = want) v' v → wpL P ops Q n rest (upd f d v') w') :
    wpL P ops Q n (⟨some d, .call ⟨.value (.func g), xs.toArray, ts⟩, ty, pos, af, some (j, want)⟩ :: rest) f w :=
  wpL_gcall hS hd hn (by rw [hb]; simp) hc ha hC h
theorem cnd_iff {Gj : Prop} {v : Value} {B want : Bool} (hb : Cnd Gj v (.bool B)) : (Gj ∧ B = want) ↔ v = .bool want := by
  constructor
  · rintro ⟨g, rfl⟩; exact hb.1 g
  · intro e
    by_cases g : Gj
    · refine ⟨g, ?_⟩
      have := (hb.1 g).symm.trans e
      simpa using this
    · have := (hb.2 g).symm.trans e
      simp [undef] at this
theorem sggc {j : Nat} {want : Bool} {dj : Nat} {g : FuncId} {xs : List Operand} {ts : Array TypeId} {vs : List Value} {v : Value} {B : Bool} {Gj : Prop} (hS : StX S w0 w L) (hd : dstOf ops j = some dj) (hn : Nat.blt dj n = true) (hb : Cnd Gj (f dj) (.bool B))
    (hc : ∀ as w, (callFunc g as).run P w = .ok (.enter g as) w) (ha : Gj ∧ B = want → Evs (ev n f) xs vs) (hC : Gj ∧ B = want → CV P g vs.toArray w v)
    (h : ∀ v' w', StX S w0 w' L → Cnd (Gj ∧ B = want) v' v → wpL P ops Q n rest (upd f d v') w') :
    wpL P ops Q n (⟨some d, .call ⟨.value (.func g), xs.toArray, ts⟩, ty, pos, af, some (j, want)⟩ :: rest) f w :=
  wpL_gcall hS hd hn (cnd_iff hb) hc ha hC h

/-! ### statements that draw their order -/
def wpQ (P : Program) (ops : Array Oper) (S : List Nat) (w0 : World) (L : List Item) (K : Act → Prop) (n : Nat) (l : List Oper) (f : Fr) : Prop := wpQuiet P ops (fun w => StX S w0 w L) K l (mk n f)
variable {K : Act → Prop}

theorem region_draw {id : Nat} {l : List Oper} (hm : P.follows .mixedOrders = true) (hB : Region.lexB .any l.toArray = true) (hS : StX S w0 w L)
    (h : wpQ P l.toArray S w0 L (fun a => ∀ w', StX S w0 w' L → Q .normal a w') n l f) : (Code.region id l.toArray true).wp P Q (mk n f) w :=
  wp_region_quiet (C := fun w => StX S w0 w L) hm hB (hS.step (ext_drew w)) h

theorem qnil (h : K (mk n f)) : wpQ P ops S w0 L K n [] f := h

theorem qv {op : Op} {v : Value} (hr : ∀ w, StX S w0 w L → Y P (ev n f) op ty w v w) (h : wpQ P ops S w0 L K n rest (upd f d v)) : wpQ P ops S w0 L K n (⟨some d, op, ty, pos, af, none⟩ :: rest) f := by
  unfold wpQ
  unfold wpQuiet
  rw [if_pos (by simp [Region.wanted])]
  refine ⟨v, fun w hw => ?_, ?_⟩
  · unfold Oper.quietAt
    rw [mk_eval, execOp_xop, hr w hw]
    exact ⟨rfl, rfl⟩
  · show wpQuiet _ _ _ _ _ ((mk n f).put (some d) v)
    rw [mk_put]
    exact h
theorem qcallV {op : Op} {g : FuncId} {args : Array Value} {v : Value} (hr : ∀ w, (xop (ev n f) op ty).run P w = .ok (.enter g args) w) (hC : ∀ w, StX S w0 w L → CV P g args w v)
    (h : wpQ P ops S w0 L K n rest (upd f d v)) : wpQ P ops S w0 L K n (⟨some d, op, ty, pos, af, none⟩ :: rest) f := by
  unfold wpQ
  unfold wpQuiet
  rw [if_pos (by simp [Region.wanted])]
  refine ⟨v, fun w hw => ?_, ?_⟩
  · unfold Oper.quietAt
    rw [mk_eval, execOp_xop, hr w]
    refine ⟨rfl, Calls.mono (hC w hw) ?_⟩
    rintro e w' ⟨u, rfl, rfl, he⟩
    exact ⟨rfl, hw.step he⟩
  · show wpQuiet _ _ _ _ _ ((mk n f).put (some d) v)
    rw [mk_put]
    exact h
theorem qcall {g : FuncId} {xs : List Operand} {ts : Array TypeId} {vs : List Value} {v : Value} (hc : ∀ as w, (callFunc g as).run P w = .ok (.enter g as) w) (ha : Evs (ev n f) xs vs) (hC : ∀ w, StX S w0 w L → CV P g vs.toArray w v)
    (h : wpQ P ops S w0 L K n rest (upd f d v)) : wpQ P ops S w0 L K n (⟨some d, .call ⟨.value (.func g), xs.toArray, ts⟩, ty, pos, af, none⟩ :: rest) f := by
  refine qcallV (fun w => ?_) hC h
  have hr := enter_run (P := P) (ρ := ev n f) (w := w) (ty := ty) (ts := ts) (fx := .func g) rfl ha hc
  rw [Array.append_empty] at hr
  exact hr
theorem qcallf {fx : Operand} {g : FuncId} {xs : List Operand} {ts : Array TypeId} {vs cl : List Value} {v : Value} (hf : ev n f fx = .func (.func g) #[] cl.toArray) (hc : ∀ as w, (callFunc g as).run P w = .ok (.enter g as) w) (ha : Evs (ev n f) xs vs)
    (hC : ∀ w, StX S w0 w L → CV P g (vs ++ cl).toArray w v)
    (h : wpQ P ops S w0 L K n rest (upd f d v)) : wpQ P ops S w0 L K n (⟨some d, .call ⟨.value fx, xs.toArray, ts⟩, ty, pos, af, none⟩ :: rest) f := by
  refine qcallV (fun w => ?_) hC h
  have hr := enter_run (P := P) (ρ := ev n f) (w := w) (ty := ty) (ts := ts) hf ha hc
  rw [List.append_toArray] at hr
  exact hr

theorem wpQ_guard {j : Nat} {want : Bool} {dj : Nat} {op : Op} (hd : dstOf ops j = some dj) (hn : Nat.blt dj n = true) {G : Prop} {v : Value}
    (hG : G ↔ f dj = .bool want)
    (hr : G → ∀ w, StX S w0 w L → (xop (ev n f) op ty).run P w = .ok (.value v) w ∨ ∃ g args, (xop (ev n f) op ty).run P w = .ok (.enter g args) w ∧ CV P g args w v)
    (h : ∀ v', Cnd G v' v → wpQ P ops S w0 L K n rest (upd f d v')) :
    wpQ P ops S w0 L K n (⟨some d, op, ty, pos, af, some (j, want)⟩ :: rest) f := by
  rw [Nat.blt_eq] at hn
  unfold wpQ
  unfold wpQuiet
  have hy := yielded_eq (f := f) hd hn
  by_cases g : G
  · have hf := hG.1 g
    rw [hf] at hy
    rw [if_pos (by simp [Region.wanted, hy])]
    refine ⟨v, fun w hw => ?_, ?_⟩
    · unfold Oper.quietAt
      rw [mk_eval, execOp_xop]
      rcases hr g w hw with h1 | ⟨g', args, h1, h2⟩
      · rw [h1]
        exact ⟨rfl, rfl⟩
      · rw [h1]
        refine ⟨rfl, Calls.mono h2 ?_⟩
        rintro e w' ⟨u, rfl, rfl, he⟩
        exact ⟨rfl, hw.step he⟩
    · show wpQuiet _ _ _ _ _ ((mk n f).put (some d) v)
      rw [mk_put]
      exact h v ⟨fun _ => rfl, fun hn => absurd g hn⟩
  · have hf : f dj ≠ .bool want := fun e => g (hG.2 e)
    rw [if_neg (by
      simp only [Region.wanted, hy]
      intro hc
      cases hv : f dj <;> simp [hv] at hc
      rename_i b
      exact hf (by rw [hv, hc]))]
    show wpQuiet _ _ _ _ _ ((mk n f).put (some d) undef)
    rw [mk_put]
    exact h undef ⟨fun hg => absurd hg g, fun _ => rfl⟩
theorem qg {j : Nat} {want : Bool} {dj : Nat} {op : Op} {B : Bool} {v : Value} (hd : dstOf ops j = some dj) (hn : Nat.blt dj n = true) (hb : f dj = .bool B) (hr : B = want → ∀ w, StX S w0 w L → Y P (ev n f) op ty w v w)
    (h : ∀ v', Cnd (B = want) v' v → wpQ P ops S w0 L K n rest (upd f d v')) : wpQ P ops S w0 L K n (⟨some d, op, ty, pos, af, some (j, want)⟩ :: rest) f :=
  wpQ_guard hd hn (by rw [hb]; simp) (fun g w hw => .inl (hr g w hw)) h
theorem qgg {j : Nat} {want : Bool} {dj : Nat} {op : Op} {B : Bool} {v : Value} {Gj : Prop} (hd : dstOf ops j = some dj) (hn : Nat.blt dj n = true) (hb : Cnd Gj (f dj) (.bool B)) (hr : Gj ∧ B = want → ∀ w, StX S w0 w L → Y P (ev n f) op ty w v w)
    (h : ∀ v', Cnd (Gj ∧ B = want) v' v → wpQ P ops S w0 L K n rest (upd f d v')) : wpQ P ops S w0 L K n (⟨some d, op, ty, pos, af, some (j, want)⟩ :: rest) f :=
  wpQ_guard hd hn (cnd_iff hb) (fun g w hw => .inl (hr g w hw)) h
theorem enterF {g : FuncId} {xs : List Operand} {ts : Array TypeId} {vs : List Value} (hc : ∀ as w, (callFunc g as).run P w = .ok (.enter g as) w) (ha : Evs (ev n f) xs vs) :
    (xop (ev n f) (.call ⟨.value (.func g), xs.toArray, ts⟩) ty).run P w = .ok (.enter g vs.toArray) w := by
  have hr := enter_run (P := P) (ρ := ev n f) (w := w) (ty := ty) (ts := ts) (fx := .func g) rfl ha hc
  rw [Array.append_empty] at hr
  exact hr
theorem qgc {j : Nat} {want : Bool} {dj : Nat} {B : Bool} {g : FuncId} {xs : List Operand} {ts : Array TypeId} {vs : List Value} {v : Value} (hd : dstOf ops j = some dj) (hn : Nat.blt dj n = true) (hb : f dj = .bool B)
    (hc : ∀ as w, (callFunc g as).run P w = .ok (.enter g as) w) (ha : B = want → Evs (ev n f) xs vs) (hC : B = want → ∀ w, StX S w0 w L → CV P g vs.toArray w v)
    (h : ∀ v', Cnd (B = want) v' v → wpQ P ops S w0 L K n rest (upd f d v')) : wpQ P ops S w0 L K n (⟨some d, .call ⟨.value (.func g), xs.toArray, ts⟩, ty, pos, af, some (j, want)⟩ :: rest) f :=
  wpQ_guard hd hn (by rw [hb]; simp) (fun g' w hw => .inr ⟨g, _, enterF hc (ha g'), hC g' w hw⟩) h
theorem qggc {j : Nat} {want : Bool} {dj : Nat} {B : Bool} {Gj : Prop} {g : FuncId} {xs : List Operand} {ts : Array TypeId} {vs : List Value} {v : Value} (hd : dstOf ops j = some dj) (hn : Nat.blt dj n = true) (hb : Cnd Gj (f dj) (.bool B))
    (hc : ∀ as w, (callFunc g as).run P w = .ok (.enter g as) w) (ha : Gj ∧ B = want → Evs (ev n f) xs vs) (hC : Gj ∧ B = want → ∀ w, StX S w0 w L → CV P g vs.toArray w v)
    (h : ∀ v', Cnd (Gj ∧ B = want) v' v → wpQ P ops S w0 L K n rest (upd f d v')) : wpQ P ops S w0 L K n (⟨some d, .call ⟨.value (.func g), xs.toArray, ts⟩, ty, pos, af, some (j, want)⟩ :: rest) f :=
  wpQ_guard hd hn (cnd_iff hb) (fun g' w hw => .inr ⟨g, _, enterF hc (ha g'), hC g' w hw⟩) h
end
end Bx
