/- The steps that touch memory, the calls, and the forms of code. -/
import Derived.Test.YtpgmehignepidaaLib2
set_option linter.all false
namespace Bx
open Go Go.RowKit

section
variable {P : Program} {ρ : Operand → Value} {w : World} {ty : TypeId}

/-! ### loads and addresses -/
theorem yLd {a : Operand} {T : TypeId} {b o : Nat} {v : Value} (hp : ρ a = .pointer (some ⟨b, o, none⟩)) (hT : ∀ w, (isAgg T).run P w = .ok false w) (hc : w.cell? ⟨b, o, none⟩ = some v) :
    Y P ρ (.load T a) ty w v w := by
  simp [Y, xop, execOp, hp, Instr.loadAt, Instr.sureAddr, loadVar, hT, hc]
theorem cell_of {w : World} {b o : Nat} {cs : List Value} {t : TypeId} {fr : Nat × Nat} {v : Value} (hb : w.heap[b]? = some (.cells cs.toArray t fr)) (hv : cs[o]? = some v) : w.cell? ⟨b, o, none⟩ = some v := by
  simp [World.cell?, hb, hv]
theorem yLdB {a : Operand} {T : TypeId} {b o : Nat} {v : Value} {cs : List Value} {t : TypeId} {fr : Nat × Nat} (hp : ρ a = .pointer (some ⟨b, o, none⟩)) (hT : ∀ w, (isAgg T).run P w = .ok false w)
    (hb : w.heap[b]? = some (.cells cs.toArray t fr)) (hv : cs[o]? = some v) : Y P ρ (.load T a) ty w v w := yLd hp hT (cell_of hb hv)
/-- The cells from an address on. -/
def Cells (w : World) (b o : Nat) (vs : List Value) : Prop := ∀ j v, vs[j]? = some v → w.cell? ⟨b, o + j, none⟩ = some v
theorem Cells.ext {w w' : World} (e : Ext w w') {b o : Nat} {vs : List Value} (h : Cells w b o vs) : Cells w' b o vs := fun j v hv => e.cell (h j v hv)
theorem yLdA {a : Operand} {T : TypeId} {b o k : Nat} {vs : List Value} (hp : ρ a = .pointer (some ⟨b, o, none⟩)) (hT : ∀ w, (isAgg T).run P w = .ok true w) (hs : ∀ w, (Go.sizeOf T).run P w = .ok k w)
    (hc : Cells w b o vs) (hl : vs.length = k) : Y P ρ (.load T a) ty w (.agg vs.toArray) w := by
  have h := run_loadCells_list (P := P) w ⟨b, o, none⟩ vs (fun j v hv => by rw [addr_add]; exact hc j v hv)
  rw [hl] at h
  simp [Y, xop, execOp, hp, Instr.loadAt, Instr.sureAddr, loadVar, hT, hs, h]
theorem yLdBA {a : Operand} {T : TypeId} {b o k : Nat} {cs vs : List Value} {t : TypeId} {fr : Nat × Nat} (hp : ρ a = .pointer (some ⟨b, o, none⟩)) (hT : ∀ w, (isAgg T).run P w = .ok true w)
    (hs : ∀ w, (Go.sizeOf T).run P w = .ok k w) (hb : w.heap[b]? = some (.cells cs.toArray t fr)) (hv : (cs.drop o).take k = vs) (hl : vs.length = k) : Y P ρ (.load T a) ty w (.agg vs.toArray) w := by
  refine yLdA hp hT hs (fun j v hj => cell_of hb ?_) hl
  subst hv
  have h1 : j < k := by
    have := (List.getElem?_eq_some_iff.1 hj).1
    rw [hl] at this
    exact this
  simpa [List.getElem?_take, h1, List.getElem?_drop] using hj
theorem yFA {x : Operand} {T : TypeId} {i b o k sz : Nat} {fs : Array Field} {fl : Field} (hx : ρ x = .pointer (some ⟨b, o, none⟩)) (hu : ∀ w, (underlying T).run P w = .ok (.struct fs) w) (hf : fs[i]? = some fl)
    (hk : fl.offset = k) (hs : ∀ w, (Go.sizeOf fl.type).run P w = .ok sz w) (hz : sz ≠ 0) : Y P ρ (.fieldAddr T x i) ty w (.pointer (some ⟨b, o + k, none⟩)) w := by
  simp [Y, xop, execOp, hx, Instr.fieldAt, Instr.sureAddr, hu, hf, fieldPlace, hs, hz, hk, addr_add]
theorem yIx {x i : Operand} {T e : TypeId} {b o len cap k : Nat} {kd : IntKind} {m : Int} (hx : ρ x = .slice (some ⟨b, o, none⟩) len cap) (hi : ρ i = .int kd m) (hu : ∀ w, (underlying T).run P w = .ok (.slice e) w)
    (hs : ∀ w, (Go.sizeOf e).run P w = .ok k w) (h0 : 0 ≤ m) (h1 : m < len) : Y P ρ (.indexAddr T x i) ty w (.pointer (some ⟨b, o + m.toNat * k, none⟩)) w := by
  simp [Y, xop, execOp, hx, hi, Instr.indexAt, asIntOf, hu, hs, h0, h1, addr_add]
theorem yIxA {x i : Operand} {T e : TypeId} {b o len k : Nat} {kd : IntKind} {m : Int} (hx : ρ x = .pointer (some ⟨b, o, none⟩)) (hi : ρ i = .int kd m) (hu : ∀ w, (underlying T).run P w = .ok (.array len e) w)
    (hs : ∀ w, (Go.sizeOf e).run P w = .ok k w) (h0 : 0 ≤ m) (h1 : m < len) : Y P ρ (.indexAddr T x i) ty w (.pointer (some ⟨b, o + m.toNat * k, none⟩)) w := by
  simp [Y, xop, execOp, hx, hi, Instr.indexAt, Instr.sureAddr, asIntOf, hu, hs, h0, h1, addr_add]
theorem yField {x : Operand} {T : TypeId} {i : Nat} {fs : Array Field} {fl : Field} {cs : Array Value} {v : Value} (hx : ρ x = .agg cs) (hu : ∀ w, (underlying T).run P w = .ok (.struct fs) w) (hf : fs[i]? = some fl)
    (hr : ∀ w, (part fl.type cs fl.offset).run P w = .ok v w) : Y P ρ (.field T x i) ty w v w := by
  simp [Y, xop, execOp, hx, Instr.field, hu, hf, asAgg, hr]

/-! ### operands in a row -/
def Evs (ρ : Operand → Value) (xs : List Operand) (vs : List Value) : Prop := xs.map ρ = vs
theorem Evs.nil : Evs ρ [] [] := rfl
theorem Evs.cons {x : Operand} {v : Value} {xs : List Operand} {vs : List Value} (hx : ρ x = v) (h : Evs ρ xs vs) : Evs ρ (x :: xs) (v :: vs) := by
  unfold Evs at *
  rw [List.map_cons, hx, h]

theorem yFn {g : Nat} {cap : List Operand} {vs : List Value} (h : Evs ρ cap vs) : Y P ρ (.makeFunc (.func g) #[] cap.toArray) ty w (.func (.func g) #[] vs.toArray) w := by
  unfold Evs at h
  simp [Y, xop, execOp, Instr.makeFunc, h]

/-! ### struct and slice literals -/
def fillL (place : Nat → Option (Nat × Nat)) (cells : List Value) : List (Nat × List Value) → Option (List Value)
  | [] => some cells
  | (i, vs) :: rest =>
    match place i with
    | none => none
    | some (off, size) => if (vs.length == size && Nat.ble (off + vs.length) cells.length) = true then fillL place (splice cells off vs) rest else none

theorem foldl_splice : ∀ (vs : List Value) (off j : Nat) (cells : Array Value), off + j + vs.length ≤ cells.size →
    ((vs.zipIdx j).foldl (fun cs (x : Value × Nat) => cs.setIfInBounds (off + x.2) x.1) cells).toList = splice cells.toList (off + j) vs
  | [], off, j, cells, h => by simp [splice]
  | v :: rest, off, j, cells, h => by
    simp only [List.length_cons] at h
    simp only [List.zipIdx_cons, List.foldl_cons]
    have hi : off + j < cells.toList.length := by simp; omega
    have ih := foldl_splice rest off (j + 1) (cells.setIfInBounds (off + j) v) (by simp; omega)
    rw [ih]
    have e : cells.toList.set (off + j) v = cells.toList.take (off + j) ++ v :: cells.toList.drop (off + j + 1) := by rw [List.set_eq_take_append_cons_drop, if_pos hi]
    have e1 : (cells.toList.take (off + j)).length = off + j := by rw [List.length_take]; omega
    unfold splice
    rw [Array.toList_setIfInBounds, e, show off + (j + 1) = off + j + 1 by omega, take_mid _ _ _ _ e1, drop_mid _ _ _ _ _ e1, List.drop_drop, List.length_cons]
    simp only [List.append_assoc, List.cons_append, List.nil_append]
    rw [show off + j + 1 + rest.length = off + j + (rest.length + 1) by omega]

theorem fill_eq (place : Nat → Option (Nat × Nat)) : ∀ (parts : List (Nat × Value)) (cells : Array Value) (r : List Value),
    fillL place cells.toList (parts.map fun p => (p.1, p.2.cells.toList)) = some r → Instr.fill place cells parts = some r.toArray
  | [], cells, r, h => by
    simp only [List.map_nil, fillL, Option.some.injEq] at h
    subst h
    simp [Instr.fill]
  | (i, v) :: rest, cells, r, h => by
    simp only [List.map_cons, fillL] at h
    simp only [Instr.fill]
    split at h
    · cases h
    · rename_i off size hp
      simp only [hp]
      split at h
      · rename_i hc
        simp only [Bool.and_eq_true, beq_iff_eq, Nat.ble_eq] at hc
        obtain ⟨h1, h2⟩ := hc
        rw [if_neg (by simp at h1 h2 ⊢; omega)]
        refine fill_eq place rest _ r ?_
        have hf := foldl_splice v.cells.toList off 0 cells (by simp at h2 ⊢; omega)
        rw [Nat.add_zero] at hf
        rw [← Array.foldl_toList, Array.toList_zipIdx]
        rw [hf]
        exact h
      · cases h

def PartsAre (ρ : Operand → Value) (ps : List (Nat × Operand)) (vs : List (Nat × List Value)) : Prop := ps.map (fun p => (p.1, (ρ p.2).cells.toList)) = vs
theorem PartsAre.nil : PartsAre ρ [] [] := rfl
theorem PartsAre.cons {i : Nat} {x : Operand} {v : Value} {cs : List Value} {ps : List (Nat × Operand)} {vs : List (Nat × List Value)} (hx : ρ x = v) (hc : v.cells.toList = cs) (h : PartsAre ρ ps vs) :
    PartsAre ρ ((i, x) :: ps) ((i, cs) :: vs) := by
  unfold PartsAre at *
  rw [List.map_cons, h, hx, hc]

theorem map_parts (ps : List (Nat × Operand)) : ((ps.toArray.map fun (i, x) => (i, ρ x)).toList).map (fun p => (p.1, p.2.cells.toList)) = ps.map (fun p => (p.1, (ρ p.2).cells.toList)) := by
  simp [List.map_map, Function.comp_def]

/-- Where the fields of a struct lie. -/
def Places (P : Program) (T : TypeId) (pl : Array (Nat × Nat)) : Prop := ∃ fs, P.underlying T = some (.struct fs) ∧ ∀ w, (fs.mapM (fun (f : Field) => do pure (f.offset, ← Go.sizeOf f.type)) : Sem _).run P w = .ok pl w
/-- A struct's literal. -/
theorem yBuild {T : TypeId} {ps : List (Nat × Operand)} {z : Value} {zs r : List Value} {pl : Array (Nat × Nat)} {vs : List (Nat × List Value)} (hz : ∀ w, (zeroValue T).run P w = .ok z w) (hzs : z.cells.toList = zs)
    (hpl : Places P T pl) (hv : PartsAre ρ ps vs) (hf : fillL (pl[·]?) zs vs = some r) : Y P ρ (.build T ps.toArray) ty w (.agg r.toArray) w := by
  obtain ⟨fs, hu, hpl⟩ := hpl
  have h := fill_eq (pl[·]?) ((ps.toArray.map fun (i, x) => (i, ρ x)).toList) z.cells r (by rw [map_parts, hv, hzs]; exact hf)
  simp only [Y, xop, execOp, Instr.build, Sem.run_bind, hz, Result.andThen_ok, run_underlying hu, hpl, h]
  rfl
end

section
variable {P : Program} {ops : Array Oper} {Q : Exit → Act → World → Prop} {n : Nat} {l : List Oper} {f : Fr} {S : List Nat} {w0 w w' : World} {L : List Item} {rest : List Oper} {d : Nat} {ty : TypeId} {pos : String} {af : Array Edge}

/-! ### new blocks and stores -/
theorem sbox {T : TypeId} {x : Operand} {v : Value} {cs : List Value} (hS : StX S w0 w L) (hx : ev n f x = v) (hc : v.cells.toList = cs)
    (h : ∀ b w', StX S w0 w' (blk b cs T :: L) → wpL P ops Q n rest (upd f d (.pointer (some ⟨b, 0, none⟩))) w') : wpL P ops Q n (⟨some d, .box T x, ty, pos, af, none⟩ :: rest) f w := by
  refine sv (v := .pointer (some ⟨w.heap.size, 0, none⟩)) (w' := w.alloc (.cells cs.toArray T (0, 0))) ?_ (h w.heap.size _ (hS.call1 (St.new w _)))
  subst hx hc
  simp [Y, xop, execOp, Instr.box, newVar, newRow]
theorem salloc {T : TypeId} {z : Value} {cs : List Value} (hS : StX S w0 w L) (hz : ∀ w, (zeroValue T).run P w = .ok z w) (hc : z.cells.toList = cs)
    (h : ∀ b w', StX S w0 w' (blk b cs T :: L) → wpL P ops Q n rest (upd f d (.pointer (some ⟨b, 0, none⟩))) w') : wpL P ops Q n (⟨some d, .alloc T, ty, pos, af, none⟩ :: rest) f w := by
  refine sv (v := .pointer (some ⟨w.heap.size, 0, none⟩)) (w' := w.alloc (.cells cs.toArray T (0, 0))) ?_ (h w.heap.size _ (hS.call1 (St.new w _)))
  subst hc
  simp [Y, xop, execOp, Instr.alloc, hz, newVar, newRow]
theorem wpL_skip {op : Op} (hr : (xop (ev n f) op ty).run P w = .ok .skip w') (h : wpL P ops Q n rest f w') : wpL P ops Q n (⟨none, op, ty, pos, af, none⟩ :: rest) f w := by
  refine wpL_run rfl ?_
  unfold Oper.wp
  rw [mk_eval, execOp_xop, hr]
  exact h
theorem run_store_at {T : TypeId} {ρ : Operand → Value} {a x : Operand} {b o k : Nat} {v : Value} {cs vs : List Value} {t : TypeId} (hp : ρ a = .pointer (some ⟨b, o, none⟩)) (hx : ρ x = v) (hs : ∀ w, (Go.sizeOf T).run P w = .ok k w)
    (hb : w.heap[b]? = some (.cells cs.toArray t (0, 0))) (hv : v.cells.toList = vs) (hk : vs.length = k) (ho : Nat.ble (o + k) cs.length = true) (h1 : vs.all (·.oneCell') = true) :
    ∃ w', (xop ρ (.store T a x) ty).run P w = .ok .skip w' ∧ Put b (.cells (splice cs o vs).toArray t (0, 0)) w w' := by
  rw [Nat.ble_eq] at ho
  obtain ⟨w', hr, hq⟩ := run_storeAt (P := P) vs o 0 cs w hb (by omega) (fun v hv => List.all_eq_true.1 h1 v hv)
  refine ⟨w', ?_, hq⟩
  have hsz : v.cells.size = k := by rw [← hk, ← hv]; simp
  simp [xop, execOp, hp, hx, Instr.storeAt, Instr.sureAddr, storeVar, hs, hsz, hv, hr]
theorem sst {T : TypeId} {a x : Operand} {b o k : Nat} {v : Value} {cs vs : List Value} {t : TypeId} {L' : List Item} (hS : StX S w0 w L) (hp : ev n f a = .pointer (some ⟨b, o, none⟩)) (hx : ev n f x = v)
    (hs : ∀ w, (Go.sizeOf T).run P w = .ok k w) (hv : v.cells.toList = vs) (hk : vs.length = k) [i : AtB L b (Eq (.cells cs.toArray t (0, 0)))] (ho : Nat.ble (o + k) cs.length = true) (h1 : vs.all (·.oneCell') = true)
    [j : SetB L b (Eq (.cells (splice cs o vs).toArray t (0, 0))) L'] (h : ∀ w', StX S w0 w' L' → wpL P ops Q n rest f w') : wpL P ops Q n (⟨none, .store T a x, ty, pos, af, none⟩ :: rest) f w := by
  obtain ⟨w', hr, hq⟩ := run_store_at (ty := ty) hp hx hs (hS.at b) hv hk ho h1
  exact wpL_skip hr (h w' (hS.put hq))

/-! ### calls -/
/-- A call that returns a value of which R holds, in the world that is left. -/
def CE (P : Program) (g : FuncId) (args : Array Value) (w : World) (R : Value → World → Prop) : Prop := Calls P g args w fun e w' => ∃ v, e = .returned v ∧ R v w'
/-- A call that returns v, and changes nothing that was there. -/
abbrev CV (P : Program) (g : FuncId) (args : Array Value) (w : World) (v : Value) : Prop := CE P g args w fun u w' => u = v ∧ Ext w w'
theorem CE.mono {g : FuncId} {args : Array Value} {R R' : Value → World → Prop} (h : CE P g args w R) (hr : ∀ v w', R v w' → R' v w') : CE P g args w R' :=
  Calls.mono h fun _ _ ⟨v, he, hR⟩ => ⟨v, he, hr _ _ hR⟩

theorem enter_run {ρ : Operand → Value} {fx : Operand} {args : List Operand} {ts : Array TypeId} {g : FuncId} {vs : List Value} {caps : Array Value} (hf : ρ fx = .func (.func g) #[] caps) (ha : Evs ρ args vs)
    (hc : ∀ as w, (callFunc g as).run P w = .ok (.enter g as) w) : (xop ρ (.call ⟨.value fx, args.toArray, ts⟩) ty).run P w = .ok (.enter g (vs.toArray ++ caps)) w := by
  unfold Evs at ha
  simp only [xop, execOp, resolve, hf, Deferred.ofValue, Sem.run_bind, Sem.run_pure, Result.andThen_ok, invoke, hc, List.map_toArray, ha]
  simp
theorem scallV {op : Op} {g : FuncId} {args : Array Value} {R : Value → World → Prop} (hr : (xop (ev n f) op ty).run P w = .ok (.enter g args) w) (hC : CE P g args w R)
    (h : ∀ v w', R v w' → wpL P ops Q n rest (upd f d v) w') : wpL P ops Q n (⟨some d, op, ty, pos, af, none⟩ :: rest) f w := by
  refine wpL_run rfl ?_
  unfold Oper.wp
  rw [mk_eval, execOp_xop, hr]
  refine Calls.mono hC ?_
  rintro e w' ⟨v, rfl, hR⟩
  show wpList P ops Q rest ((mk n f).put (some d) v) w'
  rw [mk_put]
  exact h v w' hR
/-- A call of a function by its name. -/
theorem scall {g : FuncId} {xs : List Operand} {ts : Array TypeId} {vs : List Value} {R : Value → World → Prop} (hc : ∀ as w, (callFunc g as).run P w = .ok (.enter g as) w) (ha : Evs (ev n f) xs vs) (hC : CE P g vs.toArray w R)
    (h : ∀ v w', R v w' → wpL P ops Q n rest (upd f d v) w') : wpL P ops Q n (⟨some d, .call ⟨.value (.func g), xs.toArray, ts⟩, ty, pos, af, none⟩ :: rest) f w := by
  have hr := enter_run (P := P) (ρ := ev n f) (w := w) (ty := ty) (ts := ts) (fx := .func g) rfl ha hc
  rw [Array.append_empty] at hr
  exact scallV hr hC h
/-- A call of a function value. -/
theorem scallf {fx : Operand} {g : FuncId} {xs : List Operand} {ts : Array TypeId} {vs cl : List Value} {R : Value → World → Prop} (hf : ev n f fx = .func (.func g) #[] cl.toArray) (hc : ∀ as w, (callFunc g as).run P w = .ok (.enter g as) w)
    (ha : Evs (ev n f) xs vs) (hC : CE P g (vs ++ cl).toArray w R)
    (h : ∀ v w', R v w' → wpL P ops Q n rest (upd f d v) w') : wpL P ops Q n (⟨some d, .call ⟨.value fx, xs.toArray, ts⟩, ty, pos, af, none⟩ :: rest) f w := by
  have hr := enter_run (P := P) (ρ := ev n f) (w := w) (ty := ty) (ts := ts) hf ha hc
  rw [List.append_toArray] at hr
  exact scallV hr hC h

/-! ### the forms of code -/
theorem enter {g : FuncId} {fn : Func} {c : Code} {args : List Value} {R : Value → World → Prop} (hf : P.funcs[g]? = some fn) (hb : fn.body = some c) (hn : fn.ntmps = n) (hl : Nat.ble args.length n = true)
    (h : c.wp P (bodyPost P fn fun e w' => ∃ v, e = .returned v ∧ R v w') (mk n (ini args)) w) : CE P g args.toArray w R := by
  rw [Nat.ble_eq] at hl
  refine calls_of_wp hf hb ?_
  have : ({ tmps := args.toArray ++ Array.replicate (fn.ntmps - args.toArray.size) undef, defers := [] } : Act) = mk n (ini args) := by
    simp only [mk, Act.mk.injEq, and_true]
    apply Array.ext_getElem?
    intro t
    rw [hn]
    simp only [Array.getElem?_append, List.size_toArray, List.getElem?_toArray, Array.getElem?_replicate, List.getElem?_map]
    have hi : ini args t = args.getD t undef := rfl
    by_cases h1 : t < args.length
    · simp [h1, hi, show t < n by omega, List.getD]
    · by_cases h2 : t < n
      · simp [h1, h2, hi, List.getD, show t - args.length < n - args.length by omega]
      · simp [h1, h2, show ¬ t - args.length < n - args.length by omega]
  rw [this]
  exact h

theorem seq {x y : Code} {a : Act} (h : x.wp P (Exit.then (y.wp P Q) Q) a w) : (Code.seq x y).wp P Q a w := wp_seq h
theorem block {id : Nat} {c : Code} {a : Act} (h : c.wp P (Exit.inBlock id Q) a w) : (Code.block id c).wp P Q a w := wp_block h
theorem skip {a : Act} (h : Q .normal a w) : Code.skip.wp P Q a w := wp_skip h
theorem exit {id : Nat} {a : Act} (h : Q (.exit id) a w) : (Code.exit id).wp P Q a w := wp_exit h
theorem cond {c : Operand} {x y : Code} {B : Bool} (hc : ev n f c = .bool B) (ht : B = true → x.wp P Q (mk n f) w) (hf : B = false → y.wp P Q (mk n f) w) : (Code.cond c x y).wp P Q (mk n f) w :=
  wp_cond_split (t := B) (by rw [mk_eval]; exact hc) ht hf
theorem ret {fn : Func} {R : Ending → World → Prop} {v : Value} (hr : (results fn (mk n f).tmps).run P w = .ok v w) (h : R (.returned v) w) : Code.ret.wp P (bodyPost P fn R) (mk n f) w :=
  wp_ret ⟨rfl, v, hr, h⟩
theorem retQ {fn : Func} {R : Value → World → Prop} {v : Value} (hr : (results fn (mk n f).tmps).run P w = .ok v w) (h : R v w) : bodyPost P fn (fun e w' => ∃ v, e = .returned v ∧ R v w') .ret (mk n f) w :=
  ⟨rfl, v, hr, v, rfl, h⟩
theorem retN {fn : Func} {R : Value → World → Prop} {v : Value} (hr : (results fn (mk n f).tmps).run P w = .ok v w) (h : R v w) : bodyPost P fn (fun e w' => ∃ v, e = .returned v ∧ R v w') .normal (mk n f) w :=
  ⟨rfl, v, hr, v, rfl, h⟩
theorem thenR {a : Act} {K : Act → World → Prop} (h : Q .ret a w) : Exit.then K Q .ret a w := h
theorem blockR {a : Act} {id : Nat} (h : Q .ret a w) : Exit.inBlock id Q .ret a w := h
theorem retV {fn : Func} {v : Value} (hr : (results fn (mk n f).tmps).run P w = .ok v w) (h : Ext w0 w) : bodyPost P fn (fun e w' => ∃ u, e = .returned u ∧ u = v ∧ Ext w0 w') .ret (mk n f) w :=
  ⟨rfl, v, hr, v, rfl, rfl, h⟩
theorem retVN {fn : Func} {v : Value} (hr : (results fn (mk n f).tmps).run P w = .ok v w) (h : Ext w0 w) : bodyPost P fn (fun e w' => ∃ u, e = .returned u ∧ u = v ∧ Ext w0 w') .normal (mk n f) w :=
  ⟨rfl, v, hr, v, rfl, rfl, h⟩
theorem getD_mk (n : Nat) (f : Fr) (t : Nat) : (mk n f).tmps.getD t undef = ev n f (.tmp t) := by
  have := congrFun (mk_eval n f) (.tmp t)
  exact this
theorem res1 {fn : Func} {t : Tmp} {v : Value} (h : fn.results = #[.tmp t]) (hv : ev n f (.tmp t) = v) : (results fn (mk n f).tmps).run P w = .ok v w := by
  rw [results_tmp h, getD_mk, hv]
theorem res2 {fn : Func} {t u : Tmp} {v v' : Value} (h : fn.results = #[.tmp t, .tmp u]) (hv : ev n f (.tmp t) = v) (hv' : ev n f (.tmp u) = v') : (results fn (mk n f).tmps).run P w = .ok (.tuple #[v, v']) w := by
  rw [results_tmp2 h, getD_mk, getD_mk, hv, hv']
theorem res3 {fn : Func} {t u s : Tmp} {v v' v'' : Value} (h : fn.results = #[.tmp t, .tmp u, .tmp s]) (hv : ev n f (.tmp t) = v) (hv' : ev n f (.tmp u) = v') (hv'' : ev n f (.tmp s) = v'') :
    (results fn (mk n f).tmps).run P w = .ok (.tuple #[v, v', v'']) w := by
  subst hv hv' hv''
  rw [← getD_mk, ← getD_mk, ← getD_mk]
  simp [results, h]
theorem loop {c : Code} {a : Act} (I : Fr → World → Nat → Prop) (k : Nat) (h0 : ∃ f, a = mk n f ∧ I f w k) (hstep : ∀ f w k, I f w k → c.wp P (Exit.then (fun a' w' => ∃ f' k', a' = mk n f' ∧ I f' w' k' ∧ k' < k) Q) (mk n f) w) : (Code.loop c).wp P Q a w := by
  obtain ⟨f, rfl, hI⟩ := h0
  intro b kk cs
  have key : ∀ k f w, I f w k → ∃ e a' w', Q e a' w' ∧ Arrives P (lone (b.at (mk n f) (.code c :: .inLoop c :: kk)) cs w) b kk cs e a' w' := by
    intro k
    induction k using Nat.strongRecOn with
    | _ k ih =>
      intro f w hI
      obtain ⟨e, a₁, w₁, hq, harr⟩ := hstep f w k hI b (.inLoop c :: kk) cs
      cases e with
      | normal =>
        obtain ⟨f', k', rfl, hI', hlt⟩ := hq
        obtain ⟨e₂, a₂, w₂, hq₂, harr₂⟩ := ih k' hlt f' w₁ hI'
        exact ⟨e₂, a₂, w₂, hq₂, .of_steps (Steps.trans harr (.one step_inLoop)) harr₂⟩
      | exit id => exact ⟨_, a₁, w₁, hq, .pass (x := .inLoop c) rfl (fun _ _ => .inl (by simp)) harr⟩
      | goto l => exact ⟨_, a₁, w₁, hq, .pass (x := .inLoop c) rfl (fun _ _ => .inl (by simp)) harr⟩
      | ret => exact ⟨_, a₁, w₁, hq, .pass (x := .inLoop c) rfl (fun _ _ => .inl (by simp)) harr⟩
      | panic ch => exact ⟨_, a₁, w₁, hq, .pass (x := .inLoop c) rfl (fun _ _ => .inl (by simp)) harr⟩
      | outgrown => exact ⟨_, a₁, w₁, hq, .pass (x := .inLoop c) rfl (fun _ _ => .inl (by simp)) harr⟩
  obtain ⟨e, a', w', hq, harr⟩ := key k f w hI
  exact ⟨e, a', w', hq, .of_steps (.one step_loop) harr⟩
end
end Bx
