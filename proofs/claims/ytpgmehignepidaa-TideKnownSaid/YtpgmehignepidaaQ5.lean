/- Merged texts, part 5. -/
import Derived.Test.YtpgmehignepidaaQ4
import Derived.Sort.Grow
import Derived.Deep.Draws
import Derived.Shelf.GgSortFunc.InsertionK
import Derived.Sort.LotA
import Derived.Shelf.SlSortCmp.NoneTotal
import Derived.Shelf.SlGeneric
import Derived.Ground.SlsfProg
import Derived.Test.YtpgmehignepidaaProg
set_option linter.all false
/- part P14 -/
namespace Bx
open Go Go.RowKit
def spkF (t now : Int) : List Gauge → Int → List (Int × Span)
  | [], _ => []
  | g :: gs, i => if (saysG g t now).2 = 0 then (i, (saysG g t now).1) :: spkF t now gs (i + 1) else spkF t now gs (i + 1)
abbrev spk (t now : Int) (l : List Gauge) : List (Int × Span) := spkF t now l 0
theorem spkF_app (t now : Int) : ∀ (a b : List Gauge) (i : Int), spkF t now (a ++ b) i = spkF t now a i ++ spkF t now b (i + a.length)
  | [], b, i => by simp [spkF]
  | g :: a, b, i => by
    rw [List.cons_append]
    simp only [spkF, spkF_app t now a b (i + 1), List.length_cons]
    rw [show i + 1 + (a.length : Int) = i + ((a.length + 1 : Nat) : Int) by omega]
    split <;> simp
theorem spk_take {t now : Int} {l : List Gauge} {k : Nat} {g : Gauge} (h : l[k]? = some g) : spk t now (l.take (k + 1)) = spk t now (l.take k) ++ (if (saysG g t now).2 = 0 then [((k : Int), (saysG g t now).1)] else []) := by
  have hk : k < l.length := (List.getElem?_eq_some_iff.1 h).1
  rw [take_snoc h, spk, spkF_app, show (l.take k).length = k by simp; omega]
  simp only [spkF, Int.zero_add]
theorem spk_pre {t now : Int} {l : List Gauge} {k : Nat} {g : Gauge} (h : l[k]? = some g) (hs : (saysG g t now).2 = 0) : spk t now (l.take k) ++ [((k : Int), (saysG g t now).1)] <+: spk t now l := by
  have h1 := spk_take (t := t) (now := now) h
  rw [if_pos hs] at h1
  rw [← h1]
  refine ⟨spkF t now (l.drop (k + 1)) ((l.take (k + 1)).length : Int), ?_⟩
  have := spkF_app t now (l.take (k + 1)) (l.drop (k + 1)) 0
  rw [List.take_append_drop, Int.zero_add] at this
  exact this.symm
abbrev spC (x : Int × Span) : List Value := [.int .i64 x.1, .agg (spanC x.2).toArray]
end Bx
/- part P15 -/
namespace Bx
open Go Go.RowKit
def orF : List Int → Int
  | [] => 0
  | x :: l => if x = 0 then orF l else x
/-- Two ends, by place and then by kind. -/
def cmpE (x y : Int × Int) : Int := orF [cmpI x.1 y.1, cmpI x.2 y.2]
abbrev encE (x : Int × Int) : List Value := [.int .i64 x.1, .int .i64 x.2]
def ltE (x y : Int × Int) : Bool := decide (x.1 < y.1 ∨ (x.1 = y.1 ∧ x.2 < y.2))
theorem cmpE_lt (x y : Int × Int) : decide (cmpE x y < 0) = ltE x y := by
  unfold cmpE ltE orF orF orF cmpI
  rw [decide_eq_decide]
  by_cases h1 : x.1 < y.1
  · simp [h1]
  · by_cases h2 : y.1 < x.1
    · simp [h1, h2]; omega
    · by_cases h3 : x.2 < y.2
      · simp [h1, h2, h3]; omega
      · by_cases h4 : y.2 < x.2
        · simp [h1, h2, h3, h4]
        · simp [h1, h2, h3, h4]
theorem ltE_irr (x : Int × Int) : ltE x x = false := by simp [ltE]
theorem ltE_trans (x y z : Int × Int) (h : ltE x y = true) (k : ltE y z = true) : ltE x z = true := by
  simp only [ltE, decide_eq_true_eq] at *; omega
theorem ltE_ntrans (x y z : Int × Int) (h : ltE x y = false) (k : ltE y z = false) : ltE x z = false := by
  simp only [ltE, decide_eq_false_iff_not] at *; omega
theorem ltE_tot (x y : Int × Int) (h : ltE x y = false) (k : ltE y x = false) : x = y := by
  simp only [ltE, decide_eq_false_iff_not] at *
  exact Prod.ext (by omega) (by omega)
end Bx
/- part LibU -/
namespace Bx
open Go Go.RowKit
section
variable {P : Program} {ops : Array Oper} {Q : Exit → Act → World → Prop} {n : Nat} {f : Fr} {w : World} {C : World → Prop} {K : Act → Prop} {rest : List Oper} {d : Nat} {ty : TypeId} {pos : String} {af : Array Edge} {ρ : Operand → Value}
theorem yBoxW {T : TypeId} {x : Operand} {v : Value} {cs : List Value} (hx : ρ x = v) (hc : v.cells.toList = cs) : Y P ρ (.box T x) ty w (.pointer (some ⟨w.heap.size, 0, none⟩)) (w.alloc (.cells cs.toArray T (0, 0))) := by
  subst hx hc
  simp [Y, xop, execOp, Instr.box, newVar, newRow]
theorem yBSW {T E : TypeId} {len sz : Nat} {ps : List (Nat × Operand)} {z : Value} {r : List Value} {vs : List (Nat × List Value)} (hT : P.underlying T = some (.slice E)) (hs : ∀ w, (Go.sizeOf E).run P w = .ok sz w) (hbig : Nat.ble (len * sz) 16777216 = true)
    (hz : ∀ w, (zeroValue E).run P w = .ok z w) (hpos : Nat.beq (len * sz) 0 = false) (hv : PartsAre ρ ps vs) (hf : fillL (fun i => some (i * sz, sz)) ((List.range (len * sz)).map (fun i => z.cells[i % z.cells.size]!)) vs = some r) :
    Y P ρ (.buildSlice T len ps.toArray) ty w (.slice (some ⟨w.heap.size, 0, none⟩) len len) (w.alloc (.cells r.toArray E (0, 0))) := by
  have hb : ¬ (2 ^ 24 < len * sz) := by rw [Nat.ble_eq] at hbig; omega
  have hp : len * sz ≠ 0 := fun e => by rw [e] at hpos; cases hpos
  have hfl := fill_eq (fun i => some (i * sz, sz)) ((ps.toArray.map fun (i, x) => (i, ρ x)).toList) ((Array.range (len * sz)).map (fun i => z.cells[i % z.cells.size]!)) r (by
    rw [map_parts, hv, Array.toList_map, Array.toList_range]; exact hf)
  simp only [Y, xop, execOp, Instr.buildSlice, Sem.run_bind, run_underlying hT, Result.andThen_ok, hs, Sem.run_ite, gt_iff_lt, hb, hp, if_false, hz, Sem.run_pure, hfl]
  simp [newRow]
def wpC (P : Program) (ops : Array Oper) (C : World → Prop) (K : Act → Prop) (n : Nat) (l : List Oper) (f : Fr) : Prop := wpQuiet P ops C K l (mk n f)
theorem qvC {op : Op} {v : Value} (hr : ∀ w, C w → Y P (ev n f) op ty w v w) (h : wpC P ops C K n rest (upd f d v)) : wpC P ops C K n (⟨some d, op, ty, pos, af, none⟩ :: rest) f := by
  unfold wpC
  unfold wpQuiet
  rw [if_pos (by simp [Region.wanted])]
  refine ⟨v, fun w hw => ?_, ?_⟩
  · unfold Oper.quietAt
    rw [mk_eval, execOp_xop, hr w hw]
    exact ⟨rfl, rfl⟩
  · show wpQuiet _ _ _ _ _ ((mk n f).put (some d) v)
    rw [mk_put]
    exact h
theorem qcallC {g : FuncId} {xs : List Operand} {ts : Array TypeId} {vs : List Value} {v : Value} (hc : ∀ ars w, (callFunc g ars).run P w = .ok (.enter g ars) w) (ha : Evs (ev n f) xs vs) (hC : ∀ w, C w → CE P g vs.toArray w fun u w' => u = v ∧ C w')
    (h : wpC P ops C K n rest (upd f d v)) : wpC P ops C K n (⟨some d, .call ⟨.value (.func g), xs.toArray, ts⟩, ty, pos, af, none⟩ :: rest) f := by
  have hr : ∀ w, (xop (ev n f) (.call ⟨.value (.func g), xs.toArray, ts⟩) ty).run P w = .ok (.enter g vs.toArray) w := fun w => by
    have hr := enter_run (P := P) (ρ := ev n f) (w := w) (ty := ty) (ts := ts) (fx := .func g) rfl ha hc
    rw [Array.append_empty] at hr
    exact hr
  unfold wpC
  unfold wpQuiet
  rw [if_pos (by simp [Region.wanted])]
  refine ⟨v, fun w hw => ?_, ?_⟩
  · unfold Oper.quietAt
    rw [mk_eval, execOp_xop, hr w]
    refine ⟨rfl, Calls.mono (hC w hw) ?_⟩
    rintro e w' ⟨u, rfl, rfl, he⟩
    exact ⟨rfl, he⟩
  · show wpQuiet _ _ _ _ _ ((mk n f).put (some d) v)
    rw [mk_put]
    exact h
theorem region_tailC (C : World → Prop) {id : Nat} {l : List Oper} (hm : P.follows .mixedOrders = true) (m : Nat) (hB : tailB l.toArray m = true) (hC : C { w with drawn := w.drawn + 1 })
    (h : wpC P (headOf l.toArray m) C (fun a => ∀ w', C w' → wpList P l.toArray Q (l.drop m) a w') n (l.take m) f) : (Code.region id l.toArray true).wp P Q (mk n f) w :=
  wp_region_tail (C := C) hm m hB hC h
theorem qtlC {ops' : Array Oper} {tl : List Oper} (h : ∀ w', C w' → wpL P ops Q n tl f w') : wpC P ops' C (fun a => ∀ w', C w' → wpList P ops Q tl a w') n [] f := h
end
/-- What a sort leaves, in the words of owned parts. -/
theorem ext_grow (w : World) (n : Nat) (os : Array Obj) : Ext w (Sort.grow (w.drewN n) os) := by
  refine ⟨rfl, rfl, rfl, by simp [Sort.grow, World.drewN], fun k hk => ?_⟩
  show (w.heap ++ os)[k]? = _
  rw [Array.getElem?_append, if_pos hk]
theorem grow3 (w : World) (q : Nat) (a b c : Obj) : (((w.alloc a).alloc b).drewN q).alloc c = Sort.grow (w.drewN q) #[a, b, c] := by
  rw [Sort.alloc_eq_grow, Sort.alloc_eq_grow, Sort.alloc_eq_grow, Sort.grow_grow]
  show Sort.grow (Sort.grow (w.drewN q) _) _ = _
  rw [Sort.grow_grow]; rfl
end Bx
/- part LibV -/
namespace Bx
open Go Go.RowKit
theorem flat_encE (l : List (Int × Int)) : (Sort.flatK encE 2 l.toArray).toList = l.flatMap encE := by
  apply List.ext_getElem?
  intro t
  have hlen : (l.flatMap encE).length = l.length * 2 := by
    induction l with
    | nil => rfl
    | cons a l ih => simp only [List.flatMap_cons, List.length_append, ih, List.length_cons]; simp [encE]; omega
  by_cases ht : t < l.length * 2
  · have h1 : (Sort.flatK encE 2 l.toArray).toList[t]? = some ((encE l.toArray[t / 2]!)[t % 2]!) := by
      have := Sort.get_flatK encE 2 l.toArray t (by simpa using ht)
      rw [Array.getElem?_toList, Array.getElem?_eq_getElem (by simpa using ht)]
      rw [getElem!_pos _ t (by simpa using ht)] at this
      rw [this]
    rw [h1]
    have hd : t / 2 < l.length := by omega
    have hx : l[t / 2]? = some l[t / 2] := List.getElem?_eq_getElem hd
    have hx2 : l.toArray[t / 2]! = l[t / 2] := by rw [getElem!_pos _ _ (by simpa using hd)]; simp
    rw [hx2]
    have hm : t % 2 < (encE l[t / 2]).length := by simp [encE]; omega
    have := flat2 (enc := encE) (fun _ => rfl) hx (t % 2) (v := (encE l[t / 2])[t % 2]!) (by rw [List.getElem?_eq_getElem hm]; exact congrArg some (getElem!_pos (encE l[t / 2]) (t % 2) hm).symm)
    rw [show t / 2 * 2 + t % 2 = t by omega] at this
    exact this.symm
  · rw [List.getElem?_eq_none (by simp; omega), List.getElem?_eq_none (by omega)]
theorem putCells_take {cur F : Array Value} (h : F.size ≤ cur.size) : (Sort.putCells id 0 F cur).toList.take F.size = F.toList ∧ (Sort.putCells id 0 F cur).size = cur.size := by
  refine ⟨?_, by simp [Sort.putCells]⟩
  apply List.ext_getElem?
  intro t
  by_cases ht : t < F.size
  · rw [List.getElem?_take_of_lt ht, Array.getElem?_toList, Array.getElem?_toList]
    simp only [Sort.putCells, Array.getElem?_mapIdx]
    have h1 : cur[t]? = some cur[t] := Array.getElem?_eq_getElem (by omega)
    rw [h1]
    simp only [Option.map_some]
    rw [if_pos ⟨Nat.zero_le _, by omega⟩, Nat.sub_zero, getElem!_pos F t ht, Array.getElem?_eq_getElem ht]
    rfl
  · rw [List.getElem?_eq_none (by simp; omega), List.getElem?_eq_none (by simp; omega)]
theorem sort_row {w : World} {E : TypeId} {g cap n m : Nat} {cur : Array Value} {os : Array Obj} {l : List (Int × Int)} (hg : w.heap[g]? = some (.cells cur E (0, 0))) (hcs : cur.size = cap * 2) (hn : n ≤ cap) (hc : cap ≤ maxLen) (hl : l.length = n) :
    (Go.Proofs.sortWorldK encE 2 w g 0 m l.toArray os).ownsRow 0 E 2 (.slice (some ⟨g, 0, none⟩) n cap) n (l.flatMap encE) ∧ w.grownBy (Go.Proofs.sortWorldK encE 2 w g 0 m l.toArray os) (some g) := by
  have hlt := lt_of_heap hg
  have hF : (Sort.flatK encE 2 l.toArray).size = n * 2 := by simp [hl]
  obtain ⟨h1, h2⟩ := putCells_take (cur := cur) (F := Sort.flatK encE 2 l.toArray) (by rw [hF, hcs]; omega)
  have hH : (Go.Proofs.sortWorldK encE 2 w g 0 m l.toArray os).heap = w.heap.modify g (Sort.onCells (Sort.putCells id 0 (Sort.flatK encE 2 l.toArray))) ++ os := rfl
  have hsz : (w.heap.modify g (Sort.onCells (Sort.putCells id 0 (Sort.flatK encE 2 l.toArray)))).size = w.heap.size := by simp
  refine ⟨⟨?_, .inr ⟨g, cap, Sort.putCells id 0 (Sort.flatK encE 2 l.toArray) cur, rfl, Nat.zero_le _, ?_, hn, hc, ?_, ?_⟩⟩, ⟨rfl, rfl, rfl, ?_, ?_⟩⟩
  · rw [← flat_encE, Array.length_toList, hF]
  · rw [hH, Array.getElem?_append, if_pos (by rw [hsz]; exact hlt), Array.getElem?_modify, if_pos rfl, hg]
    rfl
  · rw [h2, hcs]
  · rw [← flat_encE, ← h1, hF]
  · rw [hH, Array.size_append, hsz]; omega
  · intro k hk hne
    rw [hH, Array.getElem?_append, if_pos (by rw [hsz]; exact hk), Array.getElem?_modify, if_neg (fun e => hne (by rw [e]))]
theorem holds_row {w : World} {E : TypeId} {g cap n : Nat} {cur : Array Value} {l : List (Int × Int)} (hg : w.heap[g]? = some (.cells cur E (0, 0))) (hcs : cur.size = cap * 2) (hn : n ≤ cap) (hl : l.length = n) (ht : cur.toList.take (n * 2) = l.flatMap encE) :
    Sort.HoldsK encE 2 w g 0 l.toArray := by
  intro j hj
  have hF : (Sort.flatK encE 2 l.toArray).size = n * 2 := by simp [hl]
  rw [hF] at hj
  have hc : cur[j]? = some (Sort.flatK encE 2 l.toArray)[j]! := by
    have h1 : (cur.toList.take (n * 2))[j]? = (Sort.flatK encE 2 l.toArray).toList[j]? := by rw [ht, flat_encE]
    rw [List.getElem?_take_of_lt hj, Array.getElem?_toList, Array.getElem?_toList] at h1
    rw [h1, Array.getElem?_eq_getElem (by omega), getElem!_pos _ j (by omega)]
  refine ⟨?_, ?_⟩
  · simp [World.cell?, hg, hc]
  · simp [World.frozen?, hg]
end Bx
/- part P16 -/
namespace Bx
open Go Go.RowKit
theorem yIxV {P : Program} {ρ : Operand → Value} {w : World} {ty : TypeId} {x i : Operand} {T E : TypeId} {n m : Nat} {k : IntKind} {cs : List Value} {v : Value} (hx : ρ x = .agg cs.toArray) (hi : ρ i = .int k (m : Int)) (hu : P.underlying T = some (.array n E))
    (hs : ∀ w, (Go.sizeOf E).run P w = .ok 1 w) (ha : ∀ w, (isAgg E).run P w = .ok false w) (hm : m < n) (hv : cs[m]? = some v) : Y P ρ (.index T x i) ty w v w := by
  have h1 : (0 : Int) ≤ (m : Int) ∧ (m : Int) < (n : Int) := ⟨by omega, by omega⟩
  have hv' : cs.toArray[m]? = some v := by simpa using hv
  simp [Y, xop, execOp, Instr.index, asIntOf, hx, hi, run_underlying hu, Sem.run_bind, Result.andThen_ok, h1, hs w, part, ha w, hv', hv, hm]
theorem yBuildA {P : Program} {ρ : Operand → Value} {w : World} {ty : TypeId} {T E : TypeId} {n sz : Nat} {ps : List (Nat × Operand)} {z : Value} {zs r : List Value} {vs : List (Nat × List Value)} (hz : ∀ w, (zeroValue T).run P w = .ok z w) (hzs : z.cells.toList = zs)
    (hu : P.underlying T = some (.array n E)) (hs : ∀ w, (Go.sizeOf E).run P w = .ok sz w) (hv : PartsAre ρ ps vs) (hf : fillL (fun i => some (i * sz, sz)) zs vs = some r) : Y P ρ (.build T ps.toArray) ty w (.agg r.toArray) w := by
  have h := fill_eq (fun i => some (i * sz, sz)) ((ps.toArray.map fun (i, x) => (i, ρ x)).toList) z.cells r (by rw [map_parts, hv, hzs]; exact hf)
  simp only [Y, xop, execOp, Instr.build, Sem.run_bind, hz, Result.andThen_ok, run_underlying hu, hs, h]
  rfl
def endsOf (s : Span) : List (Int × Int) := [(s.lo, 0), (s.hi + 1, 1)]
def endsF (l : List (Int × Span)) : List (Int × Int) := l.flatMap fun x => endsOf x.2
theorem endsF_snoc (l : List (Int × Span)) (x : Int × Span) : endsF (l ++ [x]) = endsF l ++ endsOf x.2 := by simp [endsF]
theorem endsF_len (l : List (Int × Span)) : (endsF l).length = 2 * l.length := by
  induction l with
  | nil => rfl
  | cons a l ih => simp only [endsF, List.flatMap_cons, List.length_append, List.length_cons] at *; rw [ih]; simp [endsOf]; omega
def sortE (l : List (Int × Int)) : List (Int × Int) := l.mergeSort fun x y => !(ltE y x)
theorem sortE_len (l : List (Int × Int)) : (sortE l).length = l.length := by simp [sortE]
def piecesL : List (Int × Int) → Int → List (Span × Int)
  | [], _ => []
  | [_], _ => []
  | x :: y :: r, m => if x.1 < y.1 then (⟨x.1, y.1 - 1⟩, m + (1 - 2 * x.2)) :: piecesL (y :: r) (m + (1 - 2 * x.2)) else piecesL (y :: r) (m + (1 - 2 * x.2))
abbrev pieceC (p : Span × Int) : List Value := [.int .i64 p.1.lo, .int .i64 p.1.hi, .int .i64 p.2]
theorem pieceC_len (p : Span × Int) : (pieceC p).length = 3 := rfl
theorem encE_len (p : Int × Int) : (encE p).length = 2 := rfl
/-- The pieces of what the gauges say at a tick. -/
def piecesF (t now : Int) (l : List Gauge) : List (Span × Int) := piecesL (sortE (endsF (spk t now l))) 0
def EndOk (x : Int × Int) : Prop := Bd x.1 (-20000) 20001 ∧ (x.2 = 0 ∨ x.2 = 1)
theorem saysG_bd {g : Gauge} {t now : Int} (h : (saysG g t now).2 = 0) : -20000 ≤ (saysG g t now).1.lo ∧ (saysG g t now).1.lo ≤ (saysG g t now).1.hi ∧ (saysG g t now).1.hi ≤ 20000 := by
  unfold saysG saysL at *
  split at h
  · cases h
  · split at h
    · cases h
    · rename_i h1 h2
      rw [if_neg h1, if_neg h2]
      exact ⟨cuts_level.1, by show (cuts g t _).lo ≤ (cuts g t _).hi; omega, cuts_level.2⟩
theorem spkF_mem {t now : Int} : ∀ {l : List Gauge} {i : Int} {x : Int × Span}, x ∈ spkF t now l i → -20000 ≤ x.2.lo ∧ x.2.lo ≤ x.2.hi ∧ x.2.hi ≤ 20000 ∧ i ≤ x.1 ∧ x.1 < i + l.length
  | [], _, _, h => by cases h
  | g :: l, i, x, h => by
    simp only [spkF] at h
    by_cases hs : (saysG g t now).2 = 0
    · rw [if_pos hs] at h
      rcases List.mem_cons.1 h with rfl | h
      · have := saysG_bd hs
        simp only [List.length_cons]
        exact ⟨this.1, this.2.1, this.2.2, by simp, by simp; omega⟩
      · have := spkF_mem h
        simp only [List.length_cons]
        exact ⟨this.1, this.2.1, this.2.2.1, by omega, by omega⟩
    · rw [if_neg hs] at h
      have := spkF_mem h
      simp only [List.length_cons]
      exact ⟨this.1, this.2.1, this.2.2.1, by omega, by omega⟩
theorem spkF_len (t now : Int) : ∀ (l : List Gauge) (i : Int), (spkF t now l i).length ≤ l.length
  | [], _ => Nat.le_refl _
  | g :: l, i => by
    simp only [spkF]
    have := spkF_len t now l (i + 1)
    split
    · simp only [List.length_cons]; omega
    · simp only [List.length_cons]; omega
theorem ends_ok {t now : Int} {l : List Gauge} : ∀ x ∈ endsF (spk t now l), EndOk x := by
  intro x hx
  obtain ⟨y, hy, hx⟩ := List.mem_flatMap.1 hx
  obtain ⟨h1, h2, h3, _⟩ := spkF_mem hy
  simp only [endsOf, List.mem_cons, List.not_mem_nil, or_false] at hx
  rcases hx with rfl | rfl
  · exact ⟨⟨by simp; omega, by simp; omega⟩, .inl rfl⟩
  · exact ⟨⟨by simp; omega, by simp; omega⟩, .inr rfl⟩
theorem sorted_ok {t now : Int} {l : List Gauge} : ∀ x ∈ sortE (endsF (spk t now l)), EndOk x := fun x hx => ends_ok x ((List.mergeSort_perm _ _).mem_iff.1 hx)
def stepP (x : Int × Int) (m : Int) : Option (Int × Int) → List (Span × Int)
  | some y => if x.1 < y.1 then [((⟨x.1, y.1 - 1⟩ : Span), m + (1 - 2 * x.2))] else []
  | none => []
theorem pieces_step {S : List (Int × Int)} {k : Nat} {x : Int × Int} (hx : S[k]? = some x) (m : Int) :
    piecesL (S.drop k) m = stepP x m S[k + 1]? ++ piecesL (S.drop (k + 1)) (m + (1 - 2 * x.2)) := by
  have h1 : S.drop k = x :: S.drop (k + 1) := by
    obtain ⟨h, rfl⟩ := List.getElem?_eq_some_iff.1 hx
    exact List.drop_eq_getElem_cons h
  rw [h1]
  cases h2 : S[k + 1]? with
  | none =>
    have : S.drop (k + 1) = [] := List.drop_eq_nil_of_le (by simpa using h2)
    rw [this]; rfl
  | some y =>
    obtain ⟨h, rfl⟩ := List.getElem?_eq_some_iff.1 h2
    have h3 : S.drop (k + 1) = S[k + 1] :: S.drop (k + 1 + 1) := List.drop_eq_getElem_cons h
    rw [h3]
    simp only [piecesL, stepP]
    split <;> simp
end Bx
/- part Lay1 -/
namespace Go.Proofs.Ytpgmehignepidaa
open Go.Shelf
def sortEnds_ren : Go.Shelf.Ren := ⟨fun | 6 => 106 | 15 => 117 | 14 => 116 | 28 => 126 | 29 => 127 | 20 => 118 | 21 => 119 | 22 => 120 | 23 => 121 | 24 => 122 | 25 => 123 | 26 => 124 | 27 => 125 | 46 => 128 | 47 => 129 | 48 => 130 | 49 => 131 | 50 => 132 | 57 => 133 | n => n, fun | 22 => 140 | 24 => 142 | 25 => 145 | 3 => 3 | 39 => 154 | 0 => 0 | 53 => 163 | 55 => 165 | 4 => 4 | 46 => 157 | 45 => 156 | 50 => 148 | 5 => 5 | 9 => 9 | 66 => 166 | 70 => 170 | 76 => 172 | 77 => 173 | n => n, fun | n => n⟩
theorem sortEnds : Go.Proofs.SlLaysF0.n6 Try.prog sortEnds_ren := {
  mixed := by kernel_rfl
  f6 := ⟨Try.f106.name, by decide, Try.func106.trans (congrArg some (by kernel_rfl))⟩
  f14 := ⟨Try.f116.name, by decide, Try.func116.trans (congrArg some (by kernel_rfl))⟩
  f15 := Try.func117.trans (congrArg some (by kernel_rfl))
  f20 := ⟨Try.f118.name, by decide, Try.func118.trans (congrArg some (by kernel_rfl))⟩
  f21 := ⟨Try.f119.name, by decide, Try.func119.trans (congrArg some (by kernel_rfl))⟩
  f22 := ⟨Try.f120.name, by decide, Try.func120.trans (congrArg some (by kernel_rfl))⟩
  f23 := ⟨Try.f121.name, by decide, Try.func121.trans (congrArg some (by kernel_rfl))⟩
  f24 := ⟨Try.f122.name, by decide, Try.func122.trans (congrArg some (by kernel_rfl))⟩
  f25 := ⟨Try.f123.name, by decide, Try.func123.trans (congrArg some (by kernel_rfl))⟩
  f26 := ⟨Try.f124.name, by decide, Try.func124.trans (congrArg some (by kernel_rfl))⟩
  f27 := ⟨Try.f125.name, by decide, Try.func125.trans (congrArg some (by kernel_rfl))⟩
  f28 := Try.func126.trans (congrArg some (by kernel_rfl))
  f29 := Try.func127.trans (congrArg some (by kernel_rfl))
  f46 := ⟨Try.f128.name, by decide, Try.func128.trans (congrArg some (by kernel_rfl))⟩
  f47 := Try.func129.trans (congrArg some (by kernel_rfl))
  f48 := Try.func130.trans (congrArg some (by kernel_rfl))
  f49 := ⟨Try.f131.name, by decide, Try.func131.trans (congrArg some (by kernel_rfl))⟩
  f50 := ⟨Try.f132.name, by decide, Try.func132.trans (congrArg some (by kernel_rfl))⟩
  f57 := ⟨Try.f133.name, by decide, Try.func133.trans (congrArg some (by kernel_rfl))⟩
  t0 := Try.underlying0
  a0 := Try.isAgg0
  z0 := Try.sizeOf0
  v0 := Try.zeroValue0
  t3 := Try.underlying3
  a3 := Try.isAgg3
  z3 := Try.sizeOf3
  v3 := Try.zeroValue3
  t4 := Try.underlying4
  a4 := Try.isAgg4
  z4 := Try.sizeOf4
  v4 := Try.zeroValue4
  t5 := Try.underlying5
  a5 := Try.isAgg5
  z5 := Try.sizeOf5
  v5 := Try.zeroValue5
  t9 := Try.underlying9
  a9 := Try.isAgg9
  z9 := Try.sizeOf9
  v9 := Try.zeroValue9
  t22 := Try.underlying140
  a22 := Try.isAgg140
  z22 := Try.sizeOf140
  v22 := Try.zeroValue140
  t25 := Try.underlying145
  a25 := Try.isAgg145
  z25 := Try.sizeOf145
  v25 := Try.zeroValue145
  t39 := Try.underlying154
  a39 := Try.isAgg154
  z39 := Try.sizeOf154
  v39 := Try.zeroValue154
  t45 := Try.underlying156
  a45 := Try.isAgg156
  z45 := Try.sizeOf156
  v45 := Try.zeroValue156
  t46 := Try.underlying157
  a46 := Try.isAgg157
  z46 := Try.sizeOf157
  v46 := Try.zeroValue157
  t50 := Try.underlying148
  a50 := Try.isAgg148
  z50 := Try.sizeOf148
  v50 := Try.zeroValue148
  t53 := Try.underlying163
  a53 := Try.isAgg163
  z53 := Try.sizeOf163
  v53 := Try.zeroValue163
  t55 := Try.underlying165
  a55 := Try.isAgg165
  z55 := Try.sizeOf165
  v55 := Try.zeroValue165
  t66 := Try.underlying166
  a66 := Try.isAgg166
  z66 := Try.sizeOf166
  v66 := Try.zeroValue166
  t70 := Try.underlying170
  a70 := Try.isAgg170
  z70 := Try.sizeOf170
  v70 := Try.zeroValue170
  t76 := Try.underlying172
  a76 := Try.isAgg172
  z76 := Try.sizeOf172
  v76 := Try.zeroValue172
  t77 := Try.underlying173
  a77 := Try.isAgg173
  z77 := Try.sizeOf173
  v77 := Try.zeroValue173 }
end Go.Proofs.Ytpgmehignepidaa
/- part Wk21 -/
namespace Go.Proofs.Ytpgmehignepidaa
open Go Bx
/-- barrage/tide.speakers -/
theorem c_speakers {a : Option Addr} {len cap : Nat} {tick now : Int} {w0 : World} : CE Try.prog 83 #[.slice a len cap, .int .i64 tick, .int .i64 now] w0 (fun v w' => ∃ p1 p2 p3, v = .func (.func 109) #[] [.pointer (some ⟨p1, 0, none⟩), .pointer (some ⟨p2, 0, none⟩), .pointer (some ⟨p3, 0, none⟩)].toArray ∧ St w0 w' [blk p3 [.int .i64 now] 3, blk p2 [.int .i64 tick] 3, blk p1 [.slice a len cap] 66]) := by
  refine enter Try.func83 rfl Try.ntmps83 rfl ?_
  have hS := St.start w0
  refine seq ?_
  refine region ?_
  refine sbox hS rfl rfl ?_; clear hS; intro b3 w hS
  refine sbox hS rfl rfl ?_; clear hS; intro b4 w hS
  refine sbox hS rfl rfl ?_; clear hS; intro b5 w hS
  refine sv (yAsg rfl) ?_
  refine nil ?_
  show Code.wp _ _ _ _ _
  refine seq ?_
  refine region ?_
  refine sv (yFn (.cons rfl (.cons rfl (.cons rfl .nil)))) ?_
  refine sv (yAsg rfl) ?_
  refine nil ?_
  show Code.wp _ _ _ _ _
  refine wp_ret ?_
  refine retQ (res1 rfl rfl) ?_
  exact ⟨b3, b4, b5, rfl, hS⟩
set_option maxHeartbeats 1000000 in
/-- barrage/tide.speakers closure 1 -/
theorem it_speakers {l : List Gauge} {a : Option Addr} {cap p1 p2 p3 : Nat} {tick now : Int} {w0 : World} (hsl : Sl w0 5 RGauge (.slice a l.length cap) l) (hok : ∀ g ∈ l, GaugeOk g) (ht : Bd tick 0 200000) : ItC Try.prog 109 [.pointer (some ⟨p1, 0, none⟩), .pointer (some ⟨p2, 0, none⟩), .pointer (some ⟨p3, 0, none⟩)] w0 [blk p3 [.int .i64 now] 3, blk p2 [.int .i64 tick] 3, blk p1 [.slice a l.length cap] 66] spC (spk tick now l) := by
  obtain ⟨a', cap', hv, hcap, hmx, hel⟩ := hsl
  obtain ⟨rfl, rfl⟩ := slice_inj hv.symm
  intro yl Cb w L hY h0 hS
  replace hS : StX [] w0 w (blk p3 [.int .i64 now] 3 :: blk p2 [.int .i64 tick] 3 :: blk p1 [.slice a l.length cap] 66 :: L) := hS
  refine enterX Try.func109 rfl Try.ntmps109 rfl ?_
  skip
  refine seqX ?_
  refine regionX rfl ?_
  refine sv (yLdB rfl Try.isAgg66 (hS.at _) rfl) ?_
  refine sv (yLen rfl Try.underlying66) ?_
  refine sv (yMove rfl) ?_
  refine nil ?_
  show Code.wpIn _ _ _ _ _ _ _
  refine blockX ?_
  refine loopX (fun f w zz => ∃ (k : Nat) (L : List Bx.Item), f 0 = .func (.yield yl) #[] #[] ∧ f 2 = .pointer (some ⟨p2, 0, none⟩) ∧ f 3 = .pointer (some ⟨p3, 0, none⟩) ∧ f 9 = .slice a l.length cap ∧ f 10 = .int .i64 (l.length : Int) ∧ f 11 = .int .i64 (k : Int) ∧ StX [] w0 w (blk p3 [.int .i64 now] 3 :: blk p2 [.int .i64 tick] 3 :: blk p1 [.slice a l.length cap] 66 :: L) ∧ (k ≤ l.length) ∧ (Cb true (spk tick now (l.take k)) L) ∧ zz = l.length - k) _ ⟨_, rfl, 0, L, rfl, rfl, rfl, rfl, rfl, rfl, hS, (Nat.zero_le _), (h0), rfl⟩ ?_
  clear hS
  rintro f w _ ⟨k, L, h0, h2, h3, h9, h10, h11, hS, hk, hcb, rfl⟩
  refine seqX ?_
  refine regionX rfl ?_
  refine sv (yLss h11 h10) ?_
  refine nil ?_
  show Code.wpIn _ _ _ _ _ _ _
  refine seqX ?_
  refine condX rfl (fun c12 => ?_) (fun c12 => ?_)
  ·
    simp only [Bool.and_eq_true, Bool.or_eq_true, Bool.and_eq_false_iff, Bool.or_eq_false_iff, decide_eq_true_eq, decide_eq_false_iff_not, Bool.not_eq_true, Bool.not_eq_false, Bool.not_not, Bool.not_eq_eq_eq_not, Bool.not_true, Bool.not_false, Bool.false_eq_true, Bool.true_eq_false, ne_eq, Decidable.not_not, not_false_eq_true, not_true_eq_false] at c12
    refine skipX ?_
    show Code.wpIn _ _ _ _ _ _ _
    refine seqX ?_
    refine blockX ?_
    refine seqX ?_
    refine regionX rfl ?_
    obtain ⟨u, hx, hd⟩ := drop_of (l := l) (k := k) (by omega)
    obtain ⟨b, o, cs, ha, hlen, hcs, hR⟩ := hel (k) (by omega)
    obtain rfl : u = l[k] := (List.getElem?_eq_some_iff.1 hx).2.symm
    generalize l[k] = u at hx hd hR
    have hg := hR
    obtain ⟨dv, rv, rfl, -, -, -, hsd, hsr⟩ := id hg
    obtain ⟨ad, cad, rfl, -⟩ := hsd
    obtain ⟨ar, car, rfl, -⟩ := hsr
    refine sv (yMove h11) ?_
    refine sv (yIxa h9 ha h11 Try.runUnderlying66 Try.sizeOf34 (by omega) (by omega)) ?_
    refine sv (yLdA rfl Try.isAgg34 Try.sizeOf34 (hcs.ext hS.ext) hlen) ?_
    refine salloc hS Try.zeroValue34 rfl ?_; clear hS; intro b6 w hS
    refine sv (yAsg rfl) ?_
    refine sst hS rfl rfl Try.sizeOf34 rfl rfl rfl rfl ?_; clear hS; intro w hS
    refine nil ?_
    show Code.wpIn _ _ _ _ _ _ _
    refine seqX ?_
    refine regionX rfl ?_
    refine sv (yLdBA rfl Try.isAgg34 Try.sizeOf34 (hS.at _) rfl rfl) ?_
    refine sv (yLdB h2 Try.isAgg3 (hS.at _) rfl) ?_
    refine sv (yLdB h3 Try.isAgg3 (hS.at _) rfl) ?_
    refine scall Try.call69 (.cons rfl (.cons rfl (.cons rfl .nil))) (c_says (hg.ext hS.ext) (hok u (List.mem_of_getElem? hx)) ht) ?_
    rintro _ w ⟨rfl, hE⟩; replace hS := hS.step hE; clear hE
    refine sv (yMove rfl) ?_
    refine sv (yExt rfl rfl) ?_
    refine sv (yExt rfl rfl) ?_
    refine salloc hS Try.zeroValue38 rfl ?_; clear hS; intro b7 w hS
    refine sst hS rfl rfl Try.sizeOf38 rfl rfl rfl rfl ?_; clear hS; intro w hS
    refine sv (yAsg rfl) ?_
    refine nil ?_
    show Code.wpIn _ _ _ _ _ _ _
    refine seqX ?_
    refine regionL ?_
    refine preX 6 rfl ?_
    refine sv (yMove rfl) ?_
    refine sv (yEql rfl rfl) ?_
    refine sv (yMove rfl) ?_
    refine sg rfl rfl rfl (fun g => (yMove h0)) (fun v26 g26 => ?_)
    refine sg rfl rfl rfl (fun g => (yMove rfl)) (fun v27 g27 => ?_)
    refine sg rfl rfl rfl (fun g => (yLdBA rfl Try.isAgg38 Try.sizeOf38 (hS.at _) rfl rfl)) (fun v28 g28 => ?_)
    refine nil ?_
    show wpListIn _ _ _ _ _ _ _ _
    refine yieldG rfl rfl rfl (fun hne => ?_) (fun g => ⟨(g26.1 g), (.cons (g27.1 g) (.cons (g28.1 g) .nil)), (hY _ (((k : Int), (saysG u tick now).1)) w L [blk b7 (spanC (saysG u tick now).1) 38, blk b6 [.string u.name, .int .i64 u.err, .int .i64 u.rate, .slice ad u.datums.length cad, .slice ar u.readings.length car] 34, blk p3 [.int .i64 now] 3, blk p2 [.int .i64 tick] 3, blk p1 [.slice a l.length cap] 66] (spk_pre hx (of_decide_eq_true g)) hcb hS), ?_⟩)
    ·
      refine endX rfl ?_
      refine sg rfl rfl rfl (fun g => (yNot (show _ = Value.bool true from absurd g hne))) (fun v30 g30 => ?_)
      refine sv (yAnd rfl (fun hB => (g30.1 hB)) rfl) ?_
      refine nil ?_
      show Code.wpIn _ _ _ _ _ _ _
      refine condX rfl (fun c31 => ?_) (fun c31 => ?_)
      ·
        skip
        simp at c31
      ·
        skip
        have hE : ¬ (saysG u tick now).2 = 0 := fun h => hne (decide_eq_true h)
        refine skipX ?_
        show Code.wpIn _ _ _ _ _ _ _
        refine regionX rfl ?_
        refine sv (yAdd h11 rfl ⟨by omega, by omega⟩) ?_
        refine sv (yMove rfl) ?_
        refine nil ?_
        exact ⟨_, _, rfl, ⟨k + 1, L, h0, h2, h3, h9, h10, rfl, (hS.sub (.cons _ (.cons _ (List.Sublist.refl _)))), (by omega), (by rw [spk_take hx, if_neg hE, List.append_nil]; exact hcb), rfl⟩, by omega⟩
    ·
      clear hS hcb; rintro _ w ⟨b, L, rfl, hcb, hS⟩
      have hE : (saysG u tick now).2 = 0 := of_decide_eq_true g
      refine endX rfl ?_
      refine sg rfl rfl rfl (fun g => (yNot rfl)) (fun v30 g30 => ?_)
      refine sv (yAnd rfl (fun hB => (g30.1 hB)) rfl) ?_
      refine nil ?_
      show Code.wpIn _ _ _ _ _ _ _
      refine condX rfl (fun c31 => ?_) (fun c31 => ?_)
      ·
        skip
        obtain rfl : b = false := by cases b; rfl; simp at c31
        refine wpIn_ret (blockR (thenR (thenR (blockR ?_))))
        refine leafX (results_none rfl _ _ _) ?_
        exact ⟨L, hS.sub (List.sublist_append_right _ _), .inr ⟨_, hcb⟩⟩
      ·
        skip
        obtain rfl : b = true := by cases b; simp [hE] at c31; rfl
        replace hS : StX [] w0 w (blk b7 (spanC (saysG u tick now).1) 38 :: blk b6 [.string u.name, .int .i64 u.err, .int .i64 u.rate, .slice ad u.datums.length cad, .slice ar u.readings.length car] 34 :: blk p3 [.int .i64 now] 3 :: blk p2 [.int .i64 tick] 3 :: blk p1 [.slice a l.length cap] 66 :: L) := hS
        refine skipX ?_
        show Code.wpIn _ _ _ _ _ _ _
        refine regionX rfl ?_
        refine sv (yAdd h11 rfl ⟨by omega, by omega⟩) ?_
        refine sv (yMove rfl) ?_
        refine nil ?_
        exact ⟨_, _, rfl, ⟨k + 1, L, h0, h2, h3, h9, h10, rfl, (hS.sub (.cons _ (.cons _ (List.Sublist.refl _)))), (by omega), (by rw [spk_take hx, if_pos hE]; exact hcb), rfl⟩, by omega⟩
  ·
    simp only [Bool.and_eq_true, Bool.or_eq_true, Bool.and_eq_false_iff, Bool.or_eq_false_iff, decide_eq_true_eq, decide_eq_false_iff_not, Bool.not_eq_true, Bool.not_eq_false, Bool.not_not, Bool.not_eq_eq_eq_not, Bool.not_true, Bool.not_false, Bool.false_eq_true, Bool.true_eq_false, ne_eq, Decidable.not_not, not_false_eq_true, not_true_eq_false] at c12
    refine exitX ?_
    show bodyPostM (FX none) 0 _ _ _ .normal _ _
    refine leafXN (results_none rfl _ _ _) ?_
    obtain rfl : k = l.length := by omega
    rw [List.take_length] at hcb
    exact ⟨L, hS.sub (.cons _ (.cons _ (.cons _ (List.Sublist.refl _)))), .inl hcb⟩
end Go.Proofs.Ytpgmehignepidaa
/- part Wk22 -/
namespace Go.Proofs.Ytpgmehignepidaa
open Go Bx
/-- cmp.isNaN int  -/
theorem cW_isNaN {a : Int} {w0 : World} : CE Try.prog 113 #[.int .i64 a] w0 (fun v w' => v = .bool false ∧ w' = w0) := by
  refine enter Try.func113 rfl Try.ntmps113 rfl ?_
  skip
  refine seq ?_
  refine region ?_
  refine sv (yAsg rfl) ?_
  refine nil ?_
  show Code.wp _ _ _ _ _
  refine seq ?_
  refine region ?_
  refine sv (yMove rfl) ?_
  refine sv (yMove rfl) ?_
  refine sv (yNeq rfl rfl) ?_
  refine sv (yAsg rfl) ?_
  refine nil ?_
  show Code.wp _ _ _ _ _
  refine wp_ret ?_
  refine retQ (res1 rfl rfl) ?_
  exact ⟨eqB (by simp), rfl⟩
/-- cmp.Compare int  -/
theorem cW_Compare {a b : Int} {w0 : World} : CE Try.prog 95 #[.int .i64 a, .int .i64 b] w0 (fun v w' => v = .int .i64 (cmpI a b) ∧ w' = w0) := by
  refine enter Try.func95 rfl Try.ntmps95 rfl ?_
  skip
  refine seq ?_
  refine region ?_
  refine sv (yAsg rfl) ?_
  refine nil ?_
  show Code.wp _ _ _ _ _
  refine seq ?_
  refine region ?_
  refine sv (yMove rfl) ?_
  refine scall Try.call113 (.cons rfl .nil) cW_isNaN ?_
  rintro _ _ ⟨rfl, rfl⟩
  refine sv (yAsg rfl) ?_
  refine nil ?_
  show Code.wp _ _ _ _ _
  refine seq ?_
  refine region ?_
  refine sv (yMove rfl) ?_
  refine scall Try.call113 (.cons rfl .nil) cW_isNaN ?_
  rintro _ _ ⟨rfl, rfl⟩
  refine sv (yAsg rfl) ?_
  refine nil ?_
  show Code.wp _ _ _ _ _
  refine seq ?_
  refine seq ?_
  refine region ?_
  refine sv (yMove rfl) ?_
  refine nil ?_
  show Code.wp _ _ _ _ _
  refine cond rfl (fun c11 => ?_) (fun c11 => ?_)
  ·
    exact absurd c11 (by decide)
  ·
    refine skip ?_
    show Code.wp _ _ _ _ _
    refine seq ?_
    refine seq ?_
    refine region ?_
    refine sv (yMove rfl) ?_
    refine nil ?_
    show Code.wp _ _ _ _ _
    refine cond rfl (fun c13 => ?_) (fun c13 => ?_)
    ·
      exact absurd c13 (by decide)
    ·
      refine skip ?_
      show Code.wp _ _ _ _ _
      refine seq ?_
      refine seq ?_
      refine region ?_
      refine sv (yMove rfl) ?_
      refine sv (yMove rfl) ?_
      refine sv (yLss rfl rfl) ?_
      refine nil ?_
      show Code.wp _ _ _ _ _
      refine cond rfl (fun c16 => ?_) (fun c16 => ?_)
      ·
        simp only [Bool.and_eq_true, Bool.or_eq_true, Bool.and_eq_false_iff, Bool.or_eq_false_iff, decide_eq_true_eq, decide_eq_false_iff_not, Bool.not_eq_true, Bool.not_eq_false, Bool.not_not, Bool.not_eq_eq_eq_not, Bool.not_true, Bool.not_false, Bool.false_eq_true, Bool.true_eq_false, ne_eq, Decidable.not_not, not_false_eq_true, not_true_eq_false] at c16
        refine seq ?_
        refine region ?_
        refine sv (yAsg rfl) ?_
        refine nil ?_
        show Code.wp _ _ _ _ _
        refine wp_ret (thenR ?_)
        refine retQ (res1 rfl rfl) ?_
        exact ⟨eqI (by unfold cmpI; rw [if_pos c16]), rfl⟩
      ·
        simp only [Bool.and_eq_true, Bool.or_eq_true, Bool.and_eq_false_iff, Bool.or_eq_false_iff, decide_eq_true_eq, decide_eq_false_iff_not, Bool.not_eq_true, Bool.not_eq_false, Bool.not_not, Bool.not_eq_eq_eq_not, Bool.not_true, Bool.not_false, Bool.false_eq_true, Bool.true_eq_false, ne_eq, Decidable.not_not, not_false_eq_true, not_true_eq_false] at c16
        refine skip ?_
        show Code.wp _ _ _ _ _
        refine seq ?_
        refine seq ?_
        refine region ?_
        refine sv (yMove rfl) ?_
        refine sv (yMove rfl) ?_
        refine sv (yGtr rfl rfl) ?_
        refine nil ?_
        show Code.wp _ _ _ _ _
        refine cond rfl (fun c19 => ?_) (fun c19 => ?_)
        ·
          simp only [Bool.and_eq_true, Bool.or_eq_true, Bool.and_eq_false_iff, Bool.or_eq_false_iff, decide_eq_true_eq, decide_eq_false_iff_not, Bool.not_eq_true, Bool.not_eq_false, Bool.not_not, Bool.not_eq_eq_eq_not, Bool.not_true, Bool.not_false, Bool.false_eq_true, Bool.true_eq_false, ne_eq, Decidable.not_not, not_false_eq_true, not_true_eq_false] at c19
          refine seq ?_
          refine region ?_
          refine sv (yAsg rfl) ?_
          refine nil ?_
          show Code.wp _ _ _ _ _
          refine wp_ret (thenR ?_)
          refine retQ (res1 rfl rfl) ?_
          exact ⟨eqI (by unfold cmpI; rw [if_neg c16, if_pos c19]), rfl⟩
        ·
          simp only [Bool.and_eq_true, Bool.or_eq_true, Bool.and_eq_false_iff, Bool.or_eq_false_iff, decide_eq_true_eq, decide_eq_false_iff_not, Bool.not_eq_true, Bool.not_eq_false, Bool.not_not, Bool.not_eq_eq_eq_not, Bool.not_true, Bool.not_false, Bool.false_eq_true, Bool.true_eq_false, ne_eq, Decidable.not_not, not_false_eq_true, not_true_eq_false] at c19
          refine skip ?_
          show Code.wp _ _ _ _ _
          refine seq ?_
          refine region ?_
          refine sv (yAsg rfl) ?_
          refine nil ?_
          show Code.wp _ _ _ _ _
          refine wp_ret ?_
          refine retQ (res1 rfl rfl) ?_
          exact ⟨eqI (by unfold cmpI; rw [if_neg c16, if_neg c19]), rfl⟩
/-- cmp.Or int  -/
theorem cW_Or {l : List Int} {b : Nat} {T : TypeId} {w0 : World} (hb : w0.heap[b]? = some (.cells (l.map (Value.int .i64)).toArray T (0, 0))) (hl : l.length ≤ 1000) : CE Try.prog 108 #[.slice (some ⟨b, 0, none⟩) l.length l.length] w0 (fun v w' => v = .int .i64 (orF l) ∧ w' = w0) := by
  refine enter Try.func108 rfl Try.ntmps108 rfl ?_
  skip
  refine seq ?_
  refine region ?_
  refine sv (yAsg rfl) ?_
  refine nil ?_
  show Code.wp _ _ _ _ _
  refine seq ?_
  refine region ?_
  refine sv (yAsg rfl) ?_
  refine nil ?_
  show Code.wp _ _ _ _ _
  refine seq ?_
  refine seq ?_
  refine region ?_
  refine sv (yMove rfl) ?_
  refine sv (yLen rfl Try.underlying44) ?_
  refine sv (yMove rfl) ?_
  refine nil ?_
  show Code.wp _ _ _ _ _
  refine block ?_
  refine loop (fun f w zz => ∃ (k : Nat), f 3 = .int .i64 0 ∧ f 6 = .slice (some ⟨b, 0, none⟩) l.length l.length ∧ f 7 = .int .i64 (l.length : Int) ∧ f 8 = .int .i64 (k : Int) ∧ (w = w0) ∧ (k ≤ l.length) ∧ (orF l = orF (l.drop k)) ∧ zz = l.length - k) _ ⟨_, rfl, 0, rfl, rfl, rfl, rfl, (rfl), (Nat.zero_le _), (rfl), rfl⟩ ?_
  rintro f w _ ⟨k, h3, h6, h7, h8, hw, hk, hI, rfl⟩
  refine seq ?_
  refine region ?_
  refine sv (yLss h8 h7) ?_
  refine nil ?_
  show Code.wp _ _ _ _ _
  refine seq ?_
  refine cond rfl (fun c9 => ?_) (fun c9 => ?_)
  ·
    simp only [Bool.and_eq_true, Bool.or_eq_true, Bool.and_eq_false_iff, Bool.or_eq_false_iff, decide_eq_true_eq, decide_eq_false_iff_not, Bool.not_eq_true, Bool.not_eq_false, Bool.not_not, Bool.not_eq_eq_eq_not, Bool.not_true, Bool.not_false, Bool.false_eq_true, Bool.true_eq_false, ne_eq, Decidable.not_not, not_false_eq_true, not_true_eq_false] at c9
    subst hw
    obtain ⟨x, hx, hd⟩ := drop_of (l := l) (k := k) (by omega)
    refine skip ?_
    show Code.wp _ _ _ _ _
    refine seq ?_
    refine block ?_
    refine seq ?_
    refine region ?_
    refine sv (yIx0 h6 h8 Try.runUnderlying44 Try.sizeOf3 (by omega)) ?_
    refine sv (yLd rfl Try.isAgg3 (blk_cells hb _ _ (show (l.map (Value.int .i64))[k]? = some (.int .i64 x) by rw [List.getElem?_map, hx]; rfl))) ?_
    refine sv (yAsg rfl) ?_
    refine nil ?_
    show Code.wp _ _ _ _ _
    refine seq ?_
    refine region ?_
    refine sv (yMove rfl) ?_
    refine sv (yMove h3) ?_
    refine sv (yNeq rfl rfl) ?_
    refine nil ?_
    show Code.wp _ _ _ _ _
    refine cond rfl (fun c14 => ?_) (fun c14 => ?_)
    ·
      simp only [Bool.and_eq_true, Bool.or_eq_true, Bool.and_eq_false_iff, Bool.or_eq_false_iff, decide_eq_true_eq, decide_eq_false_iff_not, Bool.not_eq_true, Bool.not_eq_false, Bool.not_not, Bool.not_eq_eq_eq_not, Bool.not_true, Bool.not_false, Bool.false_eq_true, Bool.true_eq_false, ne_eq, Decidable.not_not, not_false_eq_true, not_true_eq_false] at c14
      refine seq ?_
      refine region ?_
      refine sv (yMove rfl) ?_
      refine sv (yAsg rfl) ?_
      refine nil ?_
      show Code.wp _ _ _ _ _
      refine wp_ret (blockR (thenR (thenR (blockR (thenR ?_)))))
      refine retQ (res1 rfl rfl) ?_
      exact ⟨eqI (by rw [hI, hd, orF, if_neg c14]), rfl⟩
    ·
      simp only [Bool.and_eq_true, Bool.or_eq_true, Bool.and_eq_false_iff, Bool.or_eq_false_iff, decide_eq_true_eq, decide_eq_false_iff_not, Bool.not_eq_true, Bool.not_eq_false, Bool.not_not, Bool.not_eq_eq_eq_not, Bool.not_true, Bool.not_false, Bool.false_eq_true, Bool.true_eq_false, ne_eq, Decidable.not_not, not_false_eq_true, not_true_eq_false] at c14
      refine skip ?_
      show Code.wp _ _ _ _ _
      refine region ?_
      refine sv (yAdd h8 rfl ⟨by omega, by omega⟩) ?_
      refine sv (yMove rfl) ?_
      refine nil ?_
      exact ⟨_, _, rfl, ⟨k + 1, h3, h6, h7, rfl, (rfl), (by omega), (by rw [hI, hd, orF, if_pos c14]), rfl⟩, by omega⟩
  ·
    simp only [Bool.and_eq_true, Bool.or_eq_true, Bool.and_eq_false_iff, Bool.or_eq_false_iff, decide_eq_true_eq, decide_eq_false_iff_not, Bool.not_eq_true, Bool.not_eq_false, Bool.not_not, Bool.not_eq_eq_eq_not, Bool.not_true, Bool.not_false, Bool.false_eq_true, Bool.true_eq_false, ne_eq, Decidable.not_not, not_false_eq_true, not_true_eq_false] at c9
    subst hw
    refine exit ?_
    show Code.wp _ _ _ _ _
    refine seq ?_
    refine region ?_
    refine sv (yMove h3) ?_
    refine sv (yAsg rfl) ?_
    refine nil ?_
    show Code.wp _ _ _ _ _
    obtain rfl : k = l.length := by omega
    refine wp_ret ?_
    refine retQ (res1 rfl rfl) ?_
    exact ⟨eqI (by rw [hI, List.drop_length]; rfl), rfl⟩
end Go.Proofs.Ytpgmehignepidaa
/- part Wk23 -/
namespace Go.Proofs.Ytpgmehignepidaa
open Go Bx
/-- barrage/tide.pieces closure 1: the order of two ends; the world told. -/
theorem c_pieces1 {x y : Int × Int} {w0 : World} : CE Try.prog 107 #[.agg (encE x).toArray, .agg (encE y).toArray] w0 (fun v w' => v = .int .i64 (cmpE x y) ∧ ∃ q os, w' = Sort.grow (w0.drewN q) os) := by
  refine enter Try.func107 rfl Try.ntmps107 rfl ?_
  refine seq ?_
  refine region ?_
  refine sv (yBoxW (cs := encE x) rfl rfl) ?_
  refine sv (yBoxW (cs := encE y) rfl rfl) ?_
  refine sv (yAsg rfl) ?_
  refine nil ?_
  show Code.wp _ _ _ _ _
  obtain ⟨w1, hw1⟩ : ∃ w1, w1 = w0.alloc (.cells (encE x).toArray 142 (0, 0)) := ⟨_, rfl⟩
  obtain ⟨w2, hw2⟩ : ∃ w2, w2 = w1.alloc (.cells (encE y).toArray 142 (0, 0)) := ⟨_, rfl⟩
  have hx : w2.heap[w0.heap.size]? = some (.cells (encE x).toArray 142 (0, 0)) := by rw [hw2]; exact (ext_alloc _ _).get (by rw [hw1]; exact heap_alloc_new _ _)
  have hy : w2.heap[w1.heap.size]? = some (.cells (encE y).toArray 142 (0, 0)) := by rw [hw2]; exact heap_alloc_new _ _
  subst hw1
  rw [show ((w0.alloc (.cells (encE x).toArray 142 (0, 0))).alloc (.cells (encE y).toArray 142 (0, 0))) = w2 from hw2.symm]
  refine seq ?_
  refine region_tailC (fun w => ∃ q, w = w2.drewN q) mixed 10 (by kernel_rfl) ⟨1, rfl⟩ ?_
  refine qvC (fun w _ => fa142_0 rfl) ?_
  refine qvC (fun w hC => yLdB rfl Try.isAgg3 (by obtain ⟨q, rfl⟩ := hC; exact hx) rfl) ?_
  refine qvC (fun w _ => fa142_0 rfl) ?_
  refine qvC (fun w hC => yLdB rfl Try.isAgg3 (by obtain ⟨q, rfl⟩ := hC; exact hy) rfl) ?_
  refine qcallC Try.call95 (.cons rfl (.cons rfl .nil)) (fun w hC => cW_Compare.mono (by rintro _ _ ⟨rfl, rfl⟩; exact ⟨rfl, hC⟩)) ?_
  refine qvC (fun w _ => fa142_1 rfl) ?_
  refine qvC (fun w hC => yLdB rfl Try.isAgg3 (by obtain ⟨q, rfl⟩ := hC; exact hx) rfl) ?_
  refine qvC (fun w _ => fa142_1 rfl) ?_
  refine qvC (fun w hC => yLdB rfl Try.isAgg3 (by obtain ⟨q, rfl⟩ := hC; exact hy) rfl) ?_
  refine qcallC Try.call95 (.cons rfl (.cons rfl .nil)) (fun w hC => cW_Compare.mono (by rintro _ _ ⟨rfl, rfl⟩; exact ⟨rfl, hC⟩)) ?_
  refine qtlC ?_
  rintro w ⟨q, rfl⟩
  refine sv (yBSW Try.underlying44 Try.sizeOf3 rfl Try.zeroValue3 rfl (.cons rfl rfl (.cons rfl rfl .nil)) rfl) ?_
  refine scall Try.call108 (.cons rfl .nil) (cW_Or (l := [cmpI x.1 y.1, cmpI x.2 y.2]) (heap_alloc_new _ _) (Nat.le_of_ble_eq_true rfl)) ?_
  rintro _ _ ⟨rfl, rfl⟩
  refine sv (yAsg rfl) ?_
  refine nil ?_
  show Code.wp _ _ _ _ _
  refine wp_ret (retQ (res1 rfl rfl) ?_)
  refine ⟨rfl, q, #[.cells (encE x).toArray 142 (0, 0), .cells (encE y).toArray 142 (0, 0), .cells ([cmpI x.1 y.1, cmpI x.2 y.2].map (Value.int .i64)).toArray 3 (0, 0)], ?_⟩
  rw [hw2]
  exact grow3 _ _ _ _ _

end Go.Proofs.Ytpgmehignepidaa
/- part Wk24 -/
namespace Go.Proofs.Ytpgmehignepidaa
open Go Bx
open Go.Shelf Go.RowKit Go.Lib Go.Sort
theorem lt_cmpE : ltOf cmpE = ltE := by funext x y; exact cmpE_lt x y
/-- slices.SortFunc at ends: the row holds the ends in their order. -/
theorem c_SortEnds {v : Value} {n : Nat} {l : List (Int × Int)} {w0 : World} (hr : w0.ownsRow 0 142 2 v n (l.flatMap encE)) (hl : l.length = n) (hn : n ≤ 1000) :
    CE Try.prog 106 #[v, .func (.func 107) #[] #[]] w0 (fun u w' => u = .tuple #[] ∧ w0.grownBy w' v.ownBlock ∧ w'.ownsRow 0 142 2 v n ((sortE l).flatMap encE)) := by
  rcases id hr.2 with ⟨rfl, rfl⟩ | ⟨gb, cap, cur, rfl, -, hg, hnc, hcap, hcs, ht⟩
  · have h := AnyF.slices_SortFunc_none (P := Try.prog) sortEnds none 0 (.func (.func 107) #[] #[]) w0
    refine Calls.mono h ?_
    rintro e w' ⟨rfl, rfl⟩
    obtain rfl : l = [] := List.eq_nil_of_length_eq_zero hl
    exact ⟨_, rfl, rfl, ⟨rfl, rfl, rfl, Nat.le_refl _, fun _ _ _ => rfl⟩, by rw [show sortE [] = [] from by simp [sortE]]; exact hr⟩
  · have hcmp : CmpLays Try.prog 107 #[] encE 2 cmpE gb 0 l.toArray.size w0 := by
      intro m os dk _ x y
      rw [Array.append_empty]
      refine Calls.mono (c_pieces1 (x := x) (y := y)) ?_
      rintro e w' ⟨_, rfl, rfl, q, os', rfl⟩
      exact ⟨rfl, q, os', rfl⟩
    have hO : SWO (ltOf cmpE) := by rw [lt_cmpE]; exact ⟨ltE_irr, ltE_trans, ltE_ntrans⟩
    have h := AnyQ.slices_SortFunc_total sortEnds 2 Try.isAgg142 Try.sizeOf142 encE (fun _ => rfl) (fun x v hv => by simp [encE] at hv; rcases hv with rfl | rfl <;> rfl) cmpE hO 107 #[] gb 0 cap l.toArray w0 Try.call107 hcmp (holds_row hg hcs hnc hl ht) (lt_of_heap hg) (by simp; omega) (by rw [lt_cmpE]; exact ltE_tot)
    have hs : l.toArray.size = n := by simp [hl]
    rw [hs] at h
    refine Calls.mono h ?_
    rintro e w' ⟨rfl, m, os, rfl⟩
    have hm : (l.toArray.toList.mergeSort fun x y => !(ltOf cmpE) y x) = sortE l := by rw [lt_cmpE]; rfl
    rw [hm]
    obtain ⟨h1, h2⟩ := sort_row (m := m) (os := os) (l := sortE l) hg hcs hnc hcap (by rw [sortE_len, hl])
    exact ⟨_, rfl, rfl, h2, h1⟩

end Go.Proofs.Ytpgmehignepidaa
/- part Wk25 -/
namespace Go.Proofs.Ytpgmehignepidaa
open Go Bx
set_option maxHeartbeats 2000000 in
/-- barrage/tide.pieces -/
theorem c_pieces {l : List Gauge} {a : Option Addr} {cap : Nat} {tick now : Int} {w0 : World} (hsl : Sl w0 5 RGauge (.slice a l.length cap) l) (hok : ∀ u ∈ l, GaugeOk u) (ht : Bd tick 0 200000) (hlen : l.length ≤ 100) : CE Try.prog 78 #[.slice a l.length cap, .int .i64 tick, .int .i64 now] w0 (fun v w' => St w0 w' [rowI v 113 3 (piecesF tick now l).length ((piecesF tick now l).flatMap pieceC)]) := by
  refine enterX Try.func78 rfl Try.ntmps78 rfl ?_
  have hS := St.start w0
  refine seqX ?_
  refine regionX rfl ?_
  refine sv (yAsg rfl) ?_
  refine nil ?_
  show Code.wpIn _ _ _ _ _ _ _
  refine seqX ?_
  refine regionX rfl ?_
  refine salloc hS Try.zeroValue140 rfl ?_; clear hS; intro b7 w hS
  refine nil ?_
  show Code.wpIn _ _ _ _ _ _ _
  refine seqX ?_
  refine seqX ?_
  refine regionX rfl ?_
  replace hS := hS.nilrow 142 2
  refine sv (yMove rfl) ?_
  refine sv (yMove rfl) ?_
  refine sv (yMove rfl) ?_
  refine scall Try.call83 (.cons rfl (.cons rfl (.cons rfl .nil))) c_speakers ?_
  rintro _ w ⟨p1, p2, p3, rfl, hM⟩; replace hS := hS.call hM; clear hM
  refine nil ?_
  show Code.wpIn _ _ _ _ _ _ _
  refine blockX ?_
  refine rangeX (R := [blk p3 [.int .i64 now] 3, blk p2 [.int .i64 tick] 3, blk p1 [.slice a l.length cap] 66]) (L0 := [rowI (.slice none 0 0) 142 2 0 [], blk b7 [.slice none 0 0] 140]) (ps := [20, 21]) rfl Try.call109 hS (it_speakers hsl hok ht) (fun cc pre L => cc = none ∧ ∃ v, L = [rowI v 142 2 (endsF pre).length ((endsF pre).flatMap encE), blk b7 [v] 140]) ⟨rfl, _, rfl⟩ (fun _ _ => rfl) ?_ ?_ ?_
  ·
    clear hS
    intro yl pre x w L M hpre hcb hS
    obtain ⟨-, v, rfl⟩ := hcb
    obtain ⟨hx1, hx2, hx3, -, -⟩ := spkF_mem (hpre.subset (show x ∈ pre ++ [x] by simp))
    have hpl : pre.length ≤ 100 := by
      have h1 := hpre.length_le
      have h2 : (spk tick now l).length ≤ l.length := spkF_len tick now l 0
      simp only [List.length_append, List.length_singleton] at h1
      omega
    have hel := endsF_len pre
    replace hS : StX [] w0 w (rowI v 142 2 (endsF pre).length ((endsF pre).flatMap encE) :: blk b7 [v] 140 :: M) := hS
    refine regionX rfl ?_
    refine salloc hS Try.zeroValue38 rfl ?_; clear hS; intro b9 w hS
    refine sst hS rfl rfl Try.sizeOf38 rfl rfl rfl rfl ?_; clear hS; intro w hS
    refine nil ?_
    refine ⟨_, [blk b9 (spanC x.2) 38, rowI v 142 2 (endsF pre).length ((endsF pre).flatMap encE), blk b7 [v] 140], rfl, hS, ?_⟩
    clear hS M; intro M w hS; replace hS : StX [] w0 w (blk b9 (spanC x.2) 38 :: rowI v 142 2 (endsF pre).length ((endsF pre).flatMap encE) :: blk b7 [v] 140 :: M) := hS
    refine blockX ?_
    refine seqX ?_
    refine regionX rfl ?_
    refine sv (fa38_0 rfl) ?_
    refine sv (yLdB rfl Try.isAgg3 (hS.at _) rfl) ?_
    refine sv (fa38_1 rfl) ?_
    refine sv (yLdB rfl Try.isAgg3 (hS.at _) rfl) ?_
    refine sv (yAdd rfl rfl ⟨by omega, by omega⟩) ?_
    refine sv (yBuildA Try.zeroValue86 rfl Try.underlying86 Try.sizeOf3 (.cons rfl rfl (.cons rfl rfl .nil)) rfl) ?_
    refine sv (yMove rfl) ?_
    refine nil ?_
    show Code.wpIn _ _ _ _ _ _ _
    refine blockX ?_
    refine loopX (fun f w zz => ∃ (k : Nat) (v : Value), f 7 = .pointer (some ⟨b7, 0, none⟩) ∧ f 27 = .agg [.int .i64 x.2.lo, .int .i64 (x.2.hi + 1)].toArray ∧ f 28 = .int .i64 (k : Int) ∧ StX [] w0 w (rowI v 142 2 (endsF pre ++ (endsOf x.2).take k).length ((endsF pre ++ (endsOf x.2).take k).flatMap encE) :: blk b7 [v] 140 :: M) ∧ (k ≤ 2) ∧ zz = 2 - k) _ ⟨_, rfl, 0, v, rfl, rfl, rfl, (by simp only [List.take_zero, List.append_nil]; exact hS.sub (.cons _ (List.Sublist.refl _))), (by omega), rfl⟩ ?_
    clear hS
    rintro f w _ ⟨k, v, h7, h27, h28, hS, hk, rfl⟩
    refine seqX ?_
    refine regionX rfl ?_
    refine sv (yLss h28 rfl) ?_
    refine nil ?_
    show Code.wpIn _ _ _ _ _ _ _
    refine seqX ?_
    refine condX rfl (fun c29 => ?_) (fun c29 => ?_)
    ·
      simp only [Bool.and_eq_true, Bool.or_eq_true, Bool.and_eq_false_iff, Bool.or_eq_false_iff, decide_eq_true_eq, decide_eq_false_iff_not, Bool.not_eq_true, Bool.not_eq_false, Bool.not_not, Bool.not_eq_eq_eq_not, Bool.not_true, Bool.not_false, Bool.false_eq_true, Bool.true_eq_false, ne_eq, Decidable.not_not, not_false_eq_true, not_true_eq_false] at c29
      have hk2 : k = 0 ∨ k = 1 := by omega
      refine skipX ?_
      show Code.wpIn _ _ _ _ _ _ _
      refine seqX ?_
      refine blockX ?_
      refine seqX ?_
      refine regionX rfl ?_
      refine sv (yMove h28) ?_
      refine sv (yIxV h27 h28 Try.underlying86 Try.sizeOf3 Try.isAgg3 (by omega) (show [Value.int .i64 x.2.lo, .int .i64 (x.2.hi + 1)][k]? = some (.int .i64 (if k = 0 then x.2.lo else x.2.hi + 1)) by rcases hk2 with rfl | rfl <;> rfl)) ?_
      refine sv (yAsg rfl) ?_
      refine sv (yAsg rfl) ?_
      refine nil ?_
      show Code.wpIn _ _ _ _ _ _ _
      refine regionX rfl ?_
      refine sv (yLdB h7 Try.isAgg140 (hS.at _) rfl) ?_
      refine sv (yMove rfl) ?_
      refine sv (yMove rfl) ?_
      refine sv (yBuild Try.zeroValue142 rfl pl142 (.cons rfl rfl (.cons rfl rfl .nil)) rfl) ?_
      refine sbslice hS Try.underlying140 Try.sizeOf142 rfl Try.zeroValue142 rfl (.cons rfl rfl .nil) rfl ?_; clear hS; intro b36 w hS
      refine sapp (bytes := 16) (size := 2) (v := v) (m := 1) hS rfl rfl Try.underlying140 ti142 rfl rfl rfl rfl (by decide) (blk_cells (hS.at _)) rfl rfl (by simp [endsOf]; omega) (by simp [endsOf]; omega) ?_; clear hS; intro v37 w hS
      obtain ⟨gr, capr, rfl, -⟩ := row_some (hS.row v37) (Nat.succ_pos _)
      refine sst hS h7 rfl Try.sizeOf140 rfl rfl rfl rfl ?_; clear hS; intro w hS
      refine nil ?_
      show Code.wpIn _ _ _ _ _ _ _
      refine regionX rfl ?_
      refine sv (yAdd h28 rfl ⟨by omega, by omega⟩) ?_
      refine sv (yMove rfl) ?_
      refine nil ?_
      exact ⟨_, _, rfl, ⟨k + 1, _, h7, h27, rfl, (by rw [show endsF pre ++ (endsOf x.2).take (k + 1) = (endsF pre ++ (endsOf x.2).take k) ++ [((if k = 0 then x.2.lo else x.2.hi + 1), (k : Int))] from by rcases hk2 with rfl | rfl <;> simp [endsOf]]; rw [List.flatMap_append, List.length_append]; exact hS.sub (.cons _ (List.Sublist.refl _))), (by omega), rfl⟩, by omega⟩
    ·
      simp only [Bool.and_eq_true, Bool.or_eq_true, Bool.and_eq_false_iff, Bool.or_eq_false_iff, decide_eq_true_eq, decide_eq_false_iff_not, Bool.not_eq_true, Bool.not_eq_false, Bool.not_not, Bool.not_eq_eq_eq_not, Bool.not_true, Bool.not_false, Bool.false_eq_true, Bool.true_eq_false, ne_eq, Decidable.not_not, not_false_eq_true, not_true_eq_false] at c29
      refine exitX ?_
      obtain rfl : k = 2 := by omega
      rw [show endsF pre ++ (endsOf x.2).take 2 = endsF (pre ++ [x]) from (endsF_snoc pre x).symm] at hS
      exact ⟨_, ⟨rfl, _, rfl⟩, hS⟩
  ·
    clear hS
    intro D w L hcb hS
    obtain ⟨-, v, rfl⟩ := hcb
    have hel := endsF_len (spk tick now l)
    have hsl2 : (spk tick now l).length ≤ l.length := spkF_len tick now l 0
    replace hS : StX [] w0 w [obj D (.deferred (some [])), rowI v 142 2 (endsF (spk tick now l)).length ((endsF (spk tick now l)).flatMap encE), blk b7 [v] 140] := hS
    show Code.wpIn _ _ _ _ _ _ _
    refine seqX ?_
    refine regionX rfl ?_
    refine sv (yLdB rfl Try.isAgg140 (hS.at _) rfl) ?_
    refine scall Try.call106 (.cons rfl (.cons rfl .nil)) (c_SortEnds (hS.row v) rfl (by omega)) ?_
    rintro _ w ⟨rfl, hG, hR⟩; replace hS := hS.app (v := v) (v' := v) hR hG (.inl rfl); clear hG hR
    obtain ⟨SS, hSS⟩ : ∃ SS, SS = sortE (endsF (spk tick now l)) := ⟨_, rfl⟩
    have hSl : (endsF (spk tick now l)).length = SS.length := by rw [hSS, sortE_len]
    have hSo : ∀ x ∈ SS, EndOk x := by rw [hSS]; exact sorted_ok
    rw [← hSS, hSl] at hS
    rw [hSl] at hel
    obtain ⟨ae, ce, rfl⟩ := row_shape (hS.row v)
    refine nil ?_
    show Code.wpIn _ _ _ _ _ _ _
    refine seqX ?_
    refine regionX rfl ?_
    refine sv (yAsg rfl) ?_
    refine nil ?_
    show Code.wpIn _ _ _ _ _ _ _
    refine seqX ?_
    refine regionX rfl ?_
    refine sv (yAsg rfl) ?_
    refine nil ?_
    show Code.wpIn _ _ _ _ _ _ _
    refine seqX ?_
    refine seqX ?_
    refine regionX rfl ?_
    refine sv (yLdB rfl Try.isAgg140 (hS.at _) rfl) ?_
    refine sv (yLen rfl Try.underlying140) ?_
    refine sv (yMove rfl) ?_
    refine nil ?_
    show Code.wpIn _ _ _ _ _ _ _
    refine blockX ?_
    refine loopX (fun f w zz => ∃ (k : Nat) (m : Int) (ov : Value) (outs : List (Span × Int)), f 7 = .pointer (some ⟨b7, 0, none⟩) ∧ f 12 = ov ∧ f 13 = .int .i64 m ∧ f 41 = .slice ae SS.length ce ∧ f 42 = .int .i64 (SS.length : Int) ∧ f 43 = .int .i64 (k : Int) ∧ StX [] w0 w [rowI ov 113 3 outs.length (outs.flatMap pieceC), obj D (.deferred (some [])), rowI (.slice ae SS.length ce) 142 2 SS.length (SS.flatMap encE), blk b7 [.slice ae SS.length ce] 140] ∧ (k ≤ SS.length) ∧ (Bd m (-(k : Int)) k) ∧ (outs.length ≤ k) ∧ (piecesL SS 0 = outs ++ piecesL (SS.drop k) m) ∧ zz = SS.length - k) _ ⟨_, rfl, 0, 0, _, [], rfl, rfl, rfl, rfl, rfl, rfl, (hS.nilrow 113 3), (Nat.zero_le _), (⟨by decide, by decide⟩), (Nat.le_refl _), (rfl), rfl⟩ ?_
    clear hS
    rintro f w _ ⟨k, m, ov, outs, h7, h12, h13, h41, h42, h43, hS, hk, hm, hoL, hI, rfl⟩
    refine seqX ?_
    refine regionX rfl ?_
    refine sv (yLss h43 h42) ?_
    refine nil ?_
    show Code.wpIn _ _ _ _ _ _ _
    refine seqX ?_
    refine condX rfl (fun c44 => ?_) (fun c44 => ?_)
    ·
      simp only [Bool.and_eq_true, Bool.or_eq_true, Bool.and_eq_false_iff, Bool.or_eq_false_iff, decide_eq_true_eq, decide_eq_false_iff_not, Bool.not_eq_true, Bool.not_eq_false, Bool.not_not, Bool.not_eq_eq_eq_not, Bool.not_true, Bool.not_false, Bool.false_eq_true, Bool.true_eq_false, ne_eq, Decidable.not_not, not_false_eq_true, not_true_eq_false] at c44
      obtain ⟨x, hx, hd⟩ := drop_of (l := SS) (k := k) (by omega)
      obtain ⟨ge, hae, hce⟩ := row_get (hS.row (.slice ae SS.length ce)) (by omega)
      obtain ⟨hxb, hxk⟩ := hSo x (List.mem_of_getElem? hx)
      have hxk2 : 0 ≤ x.2 ∧ x.2 ≤ 1 := by omega
      obtain ⟨y, hyk⟩ : ∃ y, k + 1 < SS.length → SS[k + 1]? = some y := by
        by_cases hq : k + 1 < SS.length
        · exact ⟨SS[k + 1], fun _ => List.getElem?_eq_getElem hq⟩
        · exact ⟨(0, 0), fun h => absurd h hq⟩
      refine skipX ?_
      show Code.wpIn _ _ _ _ _ _ _
      refine seqX ?_
      refine blockX ?_
      refine seqX ?_
      refine regionX rfl ?_
      refine sv (yMove h43) ?_
      refine sv (yIxa h41 hae h43 Try.runUnderlying140 Try.sizeOf142 (by omega) (by omega)) ?_
      refine sv (yLdA rfl Try.isAgg142 Try.sizeOf142 (flat_cells encE_len (row_at (hS.row (.slice ae SS.length ce)) hae (by omega)) hx) rfl) ?_
      refine salloc hS Try.zeroValue142 rfl ?_; clear hS; intro b15 w hS
      refine sv (yAsg rfl) ?_
      refine sst hS rfl rfl Try.sizeOf142 rfl rfl rfl rfl ?_; clear hS; intro w hS
      refine nil ?_
      show Code.wpIn _ _ _ _ _ _ _
      refine seqX ?_
      refine regionX rfl ?_
      refine sv (yMove h13) ?_
      refine sv (fa142_1 rfl) ?_
      refine sv (yLdB rfl Try.isAgg3 (hS.at _) rfl) ?_
      refine sv (yMul rfl rfl ⟨by omega, by omega⟩) ?_
      refine sv (ySub rfl rfl ⟨by omega, by omega⟩) ?_
      refine sv (yAdd rfl rfl ⟨by omega, by omega⟩) ?_
      refine sv (yAsg rfl) ?_
      refine nil ?_
      show Code.wpIn _ _ _ _ _ _ _
      refine seqX ?_
      refine region_drawX mixed (by kernel_rfl) rfl hS ?_
      refine qv (fun w hS => (yMove rfl)) ?_
      refine qv (fun w hS => (yAdd rfl rfl ⟨by omega, by omega⟩)) ?_
      refine qv (fun w hS => (yLdB h7 Try.isAgg140 (hS.at _) rfl)) ?_
      refine qv (fun w hS => (yLen rfl Try.underlying140)) ?_
      refine qv (fun w hS => (yLss rfl rfl)) ?_
      refine qv (fun w hS => (yMove rfl)) ?_
      refine qg rfl rfl rfl (fun g w hS => (yLdB h7 Try.isAgg140 (hS.at _) rfl)) (fun v60 g60 => ?_)
      refine qg rfl rfl rfl (fun g w hS => (yMove rfl)) (fun v61 g61 => ?_)
      refine qg rfl rfl rfl (fun g w hS => (yAdd (g61.1 g) rfl ⟨by omega, by omega⟩)) (fun v62 g62 => ?_)
      refine qg rfl rfl rfl (fun g w hS => (yIxa (g60.1 g) hae (g62.1 g) Try.runUnderlying140 Try.sizeOf142 (by omega) (by have := of_decide_eq_true g; omega))) (fun v63 g63 => ?_)
      refine qg rfl rfl rfl (fun g w hS => (fa142_0 (g63.1 g))) (fun v64 g64 => ?_)
      refine qg rfl rfl rfl (fun g w hS => (yLd (g64.1 g) Try.isAgg3 (((flat_cells encE_len (row_at (hS.row (.slice ae SS.length ce)) hae (by omega)) (hyk (by have := of_decide_eq_true g; omega)))).one))) (fun v65 g65 => ?_)
      refine qg rfl rfl rfl (fun g w hS => (fa142_0 rfl)) (fun v66 g66 => ?_)
      refine qg rfl rfl rfl (fun g w hS => (yLdB (g66.1 g) Try.isAgg3 (hS.at _) rfl)) (fun v67 g67 => ?_)
      refine qg rfl rfl rfl (fun g w hS => (yGtr (g65.1 g) (g67.1 g))) (fun v68 g68 => ?_)
      refine qv (fun w hS => (yAnd rfl (fun hB => (g68.1 hB)) rfl)) ?_
      clear hS; refine qnil (fun w hS => ?_)
      show Code.wpIn _ _ _ _ _ _ _
      refine condX rfl (fun c69 => ?_) (fun c69 => ?_)
      ·
        simp only [Bool.and_eq_true, Bool.or_eq_true, Bool.and_eq_false_iff, Bool.or_eq_false_iff, decide_eq_true_eq, decide_eq_false_iff_not, Bool.not_eq_true, Bool.not_eq_false, Bool.not_not, Bool.not_eq_eq_eq_not, Bool.not_true, Bool.not_false, Bool.false_eq_true, Bool.true_eq_false, ne_eq, Decidable.not_not, not_false_eq_true, not_true_eq_false] at c69
        obtain ⟨hk1, hxy⟩ := c69
        have hy := hyk (by omega)
        have hyb := (hSo y (List.mem_of_getElem? hy)).1
        refine region_anyX (C := (fun w => StX [] w0 w [blk b15 (encE x) 142, obj D (.deferred (some [])), rowI (.slice ae SS.length ce) 142 2 SS.length (SS.flatMap encE), blk b7 [.slice ae SS.length ce] 140])) mixed 13 15 (by kernel_rfl) rfl hS (fun _ h => h.sub (.cons_cons _ (.cons _ (List.Sublist.refl _)))) ?_
        clear hS; intro w hS
        refine hv (fun w hS => (yMove h12)) ?_
        refine hv (fun w hS => (fa142_0 rfl)) ?_
        refine hv (fun w hS => (yLdB rfl Try.isAgg3 (hS.at _) rfl)) ?_
        refine hv (fun w hS => (yLdB h7 Try.isAgg140 (hS.at _) rfl)) ?_
        refine hv (fun w hS => (yMove rfl)) ?_
        refine hv (fun w hS => (yAdd rfl rfl ⟨by omega, by omega⟩)) ?_
        refine hv (fun w hS => (yIxa rfl hae rfl Try.runUnderlying140 Try.sizeOf142 (by omega) (by omega))) ?_
        refine hv (fun w hS => (fa142_0 rfl)) ?_
        refine hv (fun w hS => (yLd rfl Try.isAgg3 (((flat_cells encE_len (row_at (hS.row (.slice ae SS.length ce)) hae (by omega)) hy)).one))) ?_
        refine hv (fun w hS => (ySub rfl rfl ⟨by omega, by omega⟩)) ?_
        refine hv (fun w hS => (yBuild Try.zeroValue38 rfl pl38 (.cons rfl rfl (.cons rfl rfl .nil)) rfl)) ?_
        refine hv (fun w hS => (yMove rfl)) ?_
        refine hv (fun w hS => (yBuild Try.zeroValue113 rfl pl113 (.cons rfl rfl (.cons rfl rfl .nil)) rfl)) ?_
        refine hnil ?_
        show wpA _ _ _ _ _ _ _ _ _ _
        refine a_step (i := 13) (is := []) (by kernel_rfl) ⟨?_, trivial⟩
        refine ⟨_, rfl, ?_⟩
        refine sbslice hS Try.underlying110 Try.sizeOf113 rfl Try.zeroValue113 rfl (.cons rfl rfl .nil) rfl ?_; clear hS; intro b83 w hS
        refine nil ?_
        refine ⟨fun _ => hS.sub (List.Sublist.trans (.cons_cons _ (.cons _ (List.Sublist.refl _))) (.cons _ (List.Sublist.refl _))), ?_⟩
        show wpA _ _ _ _ _ _ _ _ _ _
        refine a_step (i := 14) (is := []) (by kernel_rfl) ⟨?_, trivial⟩
        refine ⟨_, rfl, ?_⟩
        refine sapp (bytes := 24) (size := 3) (v := ov) (m := 1) hS rfl rfl Try.underlying110 ti113 rfl rfl rfl rfl (by decide) (blk_cells (hS.at _)) rfl rfl (by omega) (by omega) ?_; clear hS; intro v84 w hS
        refine nil ?_
        refine ⟨fun _ => hS.sub (List.Sublist.trans (.cons_cons _ (.cons _ (List.Sublist.refl _))) (.cons _ (List.Sublist.refl _))), ?_⟩
        show wpA _ _ _ _ _ _ _ _ _ _
        refine a_step (i := 15) (is := []) (by kernel_rfl) ⟨?_, trivial⟩
        refine ⟨_, rfl, ?_⟩
        refine sv (yAsg rfl) ?_
        refine nil ?_
        refine ⟨fun h => absurd h (by decide), ?_⟩
        show wpA _ _ _ _ _ _ _ _ _ _
        refine a_end (by kernel_rfl) ?_
        show Code.wpIn _ _ _ _ _ _ _
        refine regionX rfl ?_
        refine sv (yAdd h43 rfl ⟨by omega, by omega⟩) ?_
        refine sv (yMove rfl) ?_
        refine nil ?_
        exact ⟨_, _, rfl, ⟨k + 1, m + (1 - 2 * x.2), _, outs ++ [((⟨x.1, y.1 - 1⟩ : Span), m + (1 - 2 * x.2))], h7, rfl, rfl, h41, h42, rfl, (by rw [List.flatMap_append, List.length_append]; exact hS.sub (.cons _ (.cons _ (List.Sublist.refl _)))), (by omega), (⟨by omega, by omega⟩), (by simp; omega), (by rw [hI, pieces_step hx, hy]; simp only [stepP]; rw [if_pos hxy, List.append_assoc]), rfl⟩, by omega⟩
      ·
        simp only [Bool.and_eq_true, Bool.or_eq_true, Bool.and_eq_false_iff, Bool.or_eq_false_iff, decide_eq_true_eq, decide_eq_false_iff_not, Bool.not_eq_true, Bool.not_eq_false, Bool.not_not, Bool.not_eq_eq_eq_not, Bool.not_true, Bool.not_false, Bool.false_eq_true, Bool.true_eq_false, ne_eq, Decidable.not_not, not_false_eq_true, not_true_eq_false] at c69
        have hno : stepP x m SS[k + 1]? = [] := by
          cases hq : SS[k + 1]? with
          | none => rfl
          | some y2 =>
            have hk1 : k + 1 < SS.length := (List.getElem?_eq_some_iff.1 hq).1
            have hy2 := hyk hk1
            rw [hq] at hy2
            cases hy2
            simp only [stepP]
            rw [if_neg (by omega)]
        refine skipX ?_
        show Code.wpIn _ _ _ _ _ _ _
        refine regionX rfl ?_
        refine sv (yAdd h43 rfl ⟨by omega, by omega⟩) ?_
        refine sv (yMove rfl) ?_
        refine nil ?_
        exact ⟨_, _, rfl, ⟨k + 1, m + (1 - 2 * x.2), _, outs, h7, h12, rfl, h41, h42, rfl, (hS.sub (.cons _ (List.Sublist.refl _))), (by omega), (⟨by omega, by omega⟩), (by omega), (by rw [hI, pieces_step hx, hno]; rfl), rfl⟩, by omega⟩
    ·
      simp only [Bool.and_eq_true, Bool.or_eq_true, Bool.and_eq_false_iff, Bool.or_eq_false_iff, decide_eq_true_eq, decide_eq_false_iff_not, Bool.not_eq_true, Bool.not_eq_false, Bool.not_not, Bool.not_eq_eq_eq_not, Bool.not_true, Bool.not_false, Bool.false_eq_true, Bool.true_eq_false, ne_eq, Decidable.not_not, not_false_eq_true, not_true_eq_false] at c44
      obtain rfl : k = SS.length := by omega
      rw [List.drop_length] at hI
      have hfin : piecesF tick now l = outs := by unfold piecesF; rw [← hSS, hI]; simp [piecesL]
      refine exitX ?_
      show Code.wpIn _ _ _ _ _ _ _
      refine seqX ?_
      refine regionX rfl ?_
      refine sv (yMove h12) ?_
      refine sv (yAsg rfl) ?_
      refine nil ?_
      show Code.wpIn _ _ _ _ _ _ _
      refine wpIn_ret ?_
      refine leafD hS (fun w hS => (res1 rfl rfl)) (fun w hS => ?_)
      show St w0 w [_]
      rw [hfin]
      exact hS.sub (.cons_cons _ (List.nil_sublist _))
  ·
    intro D w L c pre hcb hS; exact absurd hcb.1 (by simp)
end Go.Proofs.Ytpgmehignepidaa
/- part LibW -/
namespace Bx
open Go Go.RowKit
theorem splice_take {cs vs : List Value} {o m : Nat} (h : o + vs.length ≤ m) (hm : m ≤ cs.length) : (splice cs o vs).take m = splice (cs.take m) o vs := by
  unfold splice
  have h2 : (cs.take o ++ vs).length = o + vs.length := by simp; omega
  have e : ∀ (A B : List Value), A.length ≤ m → (A ++ B).take m = A ++ B.take (m - A.length) := fun A B h => by rw [List.take_append, List.take_of_length_le h]
  rw [e _ _ (by omega), h2, List.take_take, Nat.min_eq_left (by omega), List.drop_take]
theorem splice_take0 {cs vs : List Value} {o : Nat} (h : o ≤ cs.length) : (splice cs o vs).take o = cs.take o := by
  unfold splice
  rw [List.append_assoc, List.take_append]
  have h1 : (cs.take o).length = o := by simp; omega
  rw [List.take_of_length_le (by omega), h1]
  simp
section
variable {P : Program} {ops : Array Oper} {Q : Exit → Act → World → Prop} {n : Nat} {f : Fr} {w w0 : World} {S : List Nat} {L : List Item} {rest : List Oper} {ty : TypeId} {pos : String} {af : Array Edge} {ρ : Operand → Value}
theorem put_grown {b : Nat} {o : Obj} {w' : World} (h : Put b o w w') : w.grownBy w' (some b) := ⟨h.os, h.tape, h.output, h.size, fun k hk hne => h.other k hk (fun e => hne (by rw [e]))⟩
/-- A store into a row. -/
theorem srst {T E : TypeId} {xa x : Operand} {g o k cap m sz : Nat} {v : Value} {xs vs : List Value} {Lf : Item → List Item} (hS : StX S w0 w L) (hp : ev n f xa = .pointer (some ⟨g, o, none⟩)) (hx : ev n f x = v) (hs : ∀ w, (Go.sizeOf T).run P w = .ok k w) (hv : v.cells.toList = vs) (hk : vs.length = k)
    [i : AtR L (.slice (some ⟨g, 0, none⟩) m cap) E sz m xs] (ho : o + k ≤ m * sz) (h1 : vs.all (·.oneCell') = true) [j : SetR L (.slice (some ⟨g, 0, none⟩) m cap) Lf]
    (h : ∀ w', StX S w0 w' (Lf (rowI (.slice (some ⟨g, 0, none⟩) m cap) E sz m (splice xs o vs))) → wpL P ops Q n rest f w') : wpL P ops Q n (⟨none, .store T xa x, ty, pos, af, none⟩ :: rest) f w := by
  have hr := hS.row (.slice (some ⟨g, 0, none⟩) m cap)
  obtain ⟨hxl, hr2⟩ := id hr
  rcases hr2 with ⟨e, _⟩ | ⟨g', cap', cur, e, -, hg, hnc, hcm, hcs, ht⟩
  · cases e
  · obtain ⟨e1, rfl⟩ := slice_inj e.symm
    cases e1
    have hle : m * sz ≤ cap * sz := Nat.mul_le_mul_right _ hnc
    have hcl : cur.toList.length = cap * sz := by simpa using hcs
    obtain ⟨w', hrun, hq⟩ := run_store_at (ty := ty) (cs := cur.toList) (t := E) hp hx hs (by simpa using hg) hv hk (by rw [Nat.ble_eq, hcl]; omega) h1
    refine wpL_skip hrun (h w' (hS.app (v := .slice (some ⟨g, 0, none⟩) m cap) (v' := .slice (some ⟨g, 0, none⟩) m cap) ⟨?_, .inr ⟨g, cap, (splice cur.toList o vs).toArray, rfl, Nat.zero_le _, hq.here, hnc, hcm, ?_, ?_⟩⟩ (put_grown hq) (.inl rfl)))
    · rw [splice_len _ _ _ (by rw [hxl, hk]; exact ho), hxl]
    · rw [List.size_toArray, splice_len _ _ _ (by rw [hcl, hk]; omega), hcl]
    · rw [List.toList_toArray, splice_take (by rw [hk]; exact ho) (by rw [hcl]; exact hle), ht]
/-- The end of a slice, behind its first i. -/
def tailV (g cap i k m : Nat) : Value := .slice (if cap = i then some ⟨g, 0, none⟩ else some ⟨g, i * k, none⟩) (m - i) (cap - i)
theorem yTail {T E : TypeId} {x xi : Operand} {g cap i k m : Nat} {kd : IntKind} (hx : ρ x = .slice (some ⟨g, 0, none⟩) m cap) (hi : ρ xi = .int kd (i : Int)) (hu : P.underlying T = some (.slice E)) (hs : ∀ w, (Go.sizeOf E).run P w = .ok k w) (hm : i ≤ m) :
    Y P ρ (.slice T x (some xi) none none) ty w (tailV g cap i k m) w := by
  have hb : (0 : Int) ≤ (i : Int) ∧ (i : Int) ≤ (m : Int) := ⟨by omega, by omega⟩
  have h1 : (⟨g, 0, none⟩ : Addr).add (i * k) = ⟨g, i * k, none⟩ := by rw [addr_add]; simp
  simp only [Y, xop, execOp, Option.map_some, Option.map_none, hx, hi, Instr.sliceAt, run_underlying hu, Sem.run_bind, Result.andThen_ok, Instr.slice, Instr.sliceBounds, Instr.sliceBound, asIntOf, Sem.run_pure, Sem.run_ite, hb, and_self, if_true, hs, Int.toNat_natCast, tailV, h1]
theorem yHead {T E : TypeId} {x xi : Operand} {a : Option Addr} {cap i k m : Nat} {kd : IntKind} (ha : ∃ g, a = some ⟨g, 0, none⟩) (hx : ρ x = .slice a m cap) (hi : ρ xi = .int kd (i : Int)) (hu : P.underlying T = some (.slice E)) (hs : ∀ w, (Go.sizeOf E).run P w = .ok k w) (hm : i ≤ cap) :
    Y P ρ (.slice T x none (some xi) none) ty w (.slice a i cap) w := by
  obtain ⟨g, rfl⟩ := ha
  have hb : (0 : Int) ≤ (i : Int) ∧ (i : Int) ≤ (cap : Int) := ⟨by omega, by omega⟩
  have h1 : (⟨g, 0, none⟩ : Addr).add (0 * k) = ⟨g, 0, none⟩ := by rw [addr_add]; simp
  simp only [Y, xop, execOp, Option.map_some, Option.map_none, hx, hi, Instr.sliceAt, run_underlying hu, Sem.run_bind, Result.andThen_ok, Instr.slice, Instr.sliceBounds, Instr.sliceBound, asIntOf, Sem.run_pure, Sem.run_ite, hb, and_self, if_true, hs, Int.toNat_natCast, h1, Nat.sub_zero]
  by_cases hc : cap = 0 <;> simp [hc]
/-- The end of a row is cleared: what is left is its first i. -/
theorem sclear {T E : TypeId} {x : Operand} {g cap i k m : Nat} {z : Value} {xs : List Value} {Lf : Item → List Item} (hS : StX S w0 w L) (hx : ev n f x = tailV g cap i k m) (hu : P.underlying T = some (.slice E)) (hz : ∀ w, (zeroValue E).run P w = .ok z w) (hzs : z.cells.size = k) (hz1 : ∀ v ∈ z.cells.toList, v.oneCell' = true) (hk0 : 0 < k) (hm : i ≤ m)
    [ir : AtR L (.slice (some ⟨g, 0, none⟩) m cap) E k m xs] [j : SetR L (.slice (some ⟨g, 0, none⟩) m cap) Lf]
    (h : ∀ w', StX S w0 w' (Lf (rowI (.slice (some ⟨g, 0, none⟩) i cap) E k i (xs.take (i * k)))) → wpL P ops Q n rest f w') : wpL P ops Q n (⟨none, .call ⟨.builtin .clear, #[x], #[T]⟩, ty, pos, af, none⟩ :: rest) f w := by
  have hr := hS.row (.slice (some ⟨g, 0, none⟩) m cap)
  obtain ⟨hxl, hr2⟩ := id hr
  rcases hr2 with ⟨e, _⟩ | ⟨g', cap', cur, e, -, hg, hnc, hcm, hcs, ht⟩
  · cases e
  obtain ⟨e1, rfl⟩ := slice_inj e.symm
  cases e1
  have hle : m * k ≤ cap * k := Nat.mul_le_mul_right _ hnc
  have hik : i * k ≤ m * k := Nat.mul_le_mul_right _ hm
  have hcl : cur.toList.length = cap * k := by simpa using hcs
  have key : ∃ w', (xop (ev n f) (.call ⟨.builtin .clear, #[x], #[T]⟩) ty).run P w = .ok (.value (.tuple #[])) w' ∧ w.grownBy w' (some g) ∧ ∃ cur' : Array Value, w'.heap[g]? = some (.cells cur' E (0, 0)) ∧ cur'.size = cap * k ∧ cur'.toList.take (i * k) = cur.toList.take (i * k) := by
    by_cases hi : m = i
    · subst hi
      refine ⟨w, ?_, ⟨rfl, rfl, rfl, Nat.le_refl _, fun _ _ _ => rfl⟩, cur, hg, hcs, rfl⟩
      obtain ⟨aa, hx2⟩ : ∃ aa, ev n f x = .slice (some aa) 0 (cap - m) := by
        rw [hx, tailV, Nat.sub_self]
        by_cases hc : cap = m
        · rw [if_pos hc]; exact ⟨_, rfl⟩
        · rw [if_neg hc]; exact ⟨_, rfl⟩
      simp [xop, execOp, resolve, hx2, Builtin.clear_, run_underlying hu, invoke, builtin, go_sem]
    · have hc : ¬ cap = i := by omega
      obtain ⟨q, hq0⟩ : ∃ q, m - i = q + 1 := ⟨m - i - 1, by omega⟩
      have hzl : (Builtin.zeroCells z.cells (m - i)).toList.length = (m - i) * k := by simp [Builtin.zeroCells, hzs]
      have hsum : i * k + (m - i) * k = m * k := by rw [← Nat.add_mul]; congr 1; omega
      obtain ⟨w', hrun, hq⟩ := run_storeAt (P := P) (b := g) (t := E) (Builtin.zeroCells z.cells (m - i)).toList (i * k) 0 cur.toList w (by simpa using hg) (by rw [hzl, hcl]; omega) (by
        intro v hv
        simp only [Builtin.zeroCells, Array.toList_map, List.mem_map] at hv
        obtain ⟨t, _, rfl⟩ := hv
        have ht : t % z.cells.size < z.cells.size := Nat.mod_lt _ (by omega)
        have e9 : z.cells[t % z.cells.size]! = z.cells[t % z.cells.size] := getElem!_pos z.cells _ ht
        rw [e9]
        exact hz1 _ (by simp))
      refine ⟨w', ?_, put_grown hq, (splice cur.toList (i * k + 0) (Builtin.zeroCells z.cells (m - i)).toList).toArray, hq.here, ?_, ?_⟩
      · rw [hq0] at hrun
        have hx2 : ev n f x = .slice (some ⟨g, i * k, none⟩) (q + 1) (cap - i) := by rw [hx, tailV, if_neg hc, hq0]
        simp [xop, execOp, resolve, hx2, Builtin.clear_, run_underlying hu, invoke, builtin, hz, hrun, Deferred.ofValue]
      · rw [List.size_toArray, splice_len _ _ _ (by rw [hzl, hcl]; omega), hcl]
      · rw [List.toList_toArray, Nat.add_zero, splice_take0 (by rw [hcl]; omega)]
  obtain ⟨w', hrun, hG, cur', hg', hcs', ht'⟩ := key
  have hfin := h w' (hS.app (v := .slice (some ⟨g, 0, none⟩) m cap) (v' := .slice (some ⟨g, 0, none⟩) i cap) ⟨by rw [List.length_take, hxl]; omega, .inr ⟨g, cap, cur', rfl, Nat.zero_le _, hg', by omega, hcm, hcs', by rw [ht', ← ht, List.take_take, Nat.min_eq_left hik]⟩⟩ hG (.inl rfl))
  refine wpL_run rfl ?_
  unfold Oper.wp
  rw [mk_eval, execOp_xop, hrun]
  exact hfin
end
end Bx
/- part P17 -/
namespace Bx
open Go Go.RowKit
abbrev PL := List (Span × Int)
theorem StX.startR {w : World} {v : Value} {E : TypeId} {k n : Nat} {xs : List Value} (h : w.ownsRow 0 E k v n xs) : StX v.ownBlock.toList w w [rowI v E k n xs] :=
  .start (fun it hit => by obtain rfl : it = _ := by simpa using hit
                           exact h) (fun c hc => by simpa [fps, rowI] using hc) (by show (v.ownBlock.toList ++ []).Nodup; cases hv : v.ownBlock <;> simp)
theorem StX.grown {v : Value} {w0 w : World} {L : List Item} (h : StX v.ownBlock.toList w0 w L) : w0.grownBy w v.ownBlock :=
  ⟨h.extx.os, h.extx.tape, h.extx.output, h.extx.size, fun k hk hn => h.extx.block k hk (fun hm => hn (by cases hv : v.ownBlock with | none => rw [hv] at hm; cases hm | some b => rw [hv] at hm; simp at hm; rw [hm]))⟩
theorem idxF_spec {α : Type} (p : α → Bool) : ∀ (l : List α) (i : Int), 0 ≤ i → (idxF p l i = -1 ∧ l.filter (fun x => !p x) = l) ∨ ∃ k, k < l.length ∧ idxF p l i = i + k ∧ (∀ x ∈ l.take k, p x = false) ∧ ∃ x, l[k]? = some x ∧ p x = true
  | [], _, _ => .inl ⟨rfl, rfl⟩
  | x :: l, i, hi => by
    by_cases hp : p x = true
    · exact .inr ⟨0, by simp, by simp [idxF, hp], by simp, x, by simp, hp⟩
    · rcases idxF_spec p l (i + 1) (by omega) with ⟨h1, h2⟩ | ⟨k, h1, h2, h3, y, h4, h5⟩
      · refine .inl ⟨by simp [idxF, hp, h1], ?_⟩
        rw [List.filter_cons_of_pos (by simpa using hp), h2]
      · refine .inr ⟨k + 1, by simp; omega, by simp only [idxF, if_neg hp, h2]; omega, ?_, y, by simpa using h4, h5⟩
        intro z hz
        rcases List.mem_cons.1 (by simpa using hz) with rfl | hz
        · simpa using hp
        · exact h3 z hz
theorem flatP_len (l : List (Span × Int)) : (l.flatMap pieceC).length = l.length * 3 := by
  induction l with
  | nil => rfl
  | cons a l ih => simp only [List.flatMap_cons, List.length_append, ih, List.length_cons]; simp [pieceC]; omega
theorem splice_flat (ks r : List (Span × Int)) (y v : Span × Int) : splice ((ks ++ y :: r).flatMap pieceC) (ks.length * 3) (pieceC v) = (ks ++ v :: r).flatMap pieceC := by
  unfold splice
  have h := flatP_len ks
  have e1 : ((ks ++ y :: r).flatMap pieceC).take (ks.length * 3) = ks.flatMap pieceC := by
    rw [List.flatMap_append, List.take_append, List.take_of_length_le (by omega), h]; simp
  have e2 : ((ks ++ y :: r).flatMap pieceC).drop (ks.length * 3 + (pieceC v).length) = r.flatMap pieceC := by
    rw [List.flatMap_append, List.drop_append, List.drop_eq_nil_of_le (by rw [pieceC_len]; omega), h, show ks.length * 3 + (pieceC v).length - ks.length * 3 = 3 by rw [pieceC_len]; omega]
    simp [pieceC]
  rw [e1, e2]
  simp
theorem take_flat (ks r : List (Span × Int)) : ((ks ++ r).flatMap pieceC).take (ks.length * 3) = ks.flatMap pieceC := by
  have h := flatP_len ks
  rw [List.flatMap_append, List.take_append, List.take_of_length_le (by omega), h]; simp
theorem flat3 (x : Span × Int) : (pieceC x).length = 3 := rfl
theorem cut_at {α : Type} {l : List α} {i : Nat} {z : α} (h : l[i]? = some z) : l.take i ++ [z] ++ l.drop (i + 1) = l := by
  rw [← take_snoc h, List.take_append_drop]
theorem filter_at {α : Type} {p : α → Bool} {l : List α} {i : Nat} {z : α} (h : l[i]? = some z) (h1 : ∀ x ∈ l.take i, p x = false) (hz : p z = true) : (l.filter fun x => !p x) = l.take i ++ (l.drop (i + 1)).filter fun x => !p x := by
  conv => lhs; rw [← cut_at h]
  rw [List.filter_append, List.filter_append, List.filter_eq_self.2 (fun x hx => by simp [h1 x hx]), List.filter_cons_of_neg (by simp [hz])]
  simp
theorem gap_in {α : Type} {ks js l : List α} {j : Nat} {x : α} (hx : l[j]? = some x) : ks ++ (js ++ [x]) ++ l.drop (j + 1) = ks ++ js ++ l.drop j := by
  obtain ⟨h, rfl⟩ := List.getElem?_eq_some_iff.1 hx
  rw [List.drop_eq_getElem_cons h]; simp
theorem gap_out {ks js l : List (Span × Int)} {j : Nat} {x : Span × Int} (hx : l[j]? = some x) (hne : js ≠ []) : ((ks ++ [x]) ++ (js.tail ++ [x]) ++ l.drop (j + 1)).flatMap pieceC = splice ((ks ++ js ++ l.drop j).flatMap pieceC) (ks.length * 3) (pieceC x) := by
  obtain ⟨h, rfl⟩ := List.getElem?_eq_some_iff.1 hx
  cases js with
  | nil => exact absurd rfl hne
  | cons y r =>
    have := splice_flat ks (r ++ l.drop j) y l[j]
    rw [show ks ++ y :: r ++ l.drop j = ks ++ y :: (r ++ l.drop j) by simp, this, List.drop_eq_getElem_cons h]
    simp
/-- The place k of what was kept, what lies between, and the rest. -/
theorem mid_get {α : Type} {ks js l : List α} {j : Nat} {x : α} (hl : ks.length + js.length = j) (hx : l[j]? = some x) : (ks ++ js ++ l.drop j)[j]? = some x := by
  rw [List.getElem?_append_right (by simp; omega)]
  simp only [List.length_append, hl, Nat.sub_self, List.getElem?_drop, Nat.add_zero]
  exact hx
end Bx
/- part Wk26 -/
namespace Go.Proofs.Ytpgmehignepidaa
open Go Bx
/-- slices.IndexFunc   barrage/tide.piece,barrage/tide.piece  -/
theorem c_IndexFuncP {l : List (Span × Int)} {p : Span × Int → Bool} {v : Value} {g : Nat} {cl : List Value} {w0 : World} (hsl : Sl w0 3 (fun (_ : World) cs x => cs = pieceC x ∧ True) v l) (hcall : ∀ ys w, (callFunc g ys).run Try.prog w = .ok (.enter g ys) w) (hp : ∀ x w, x ∈ l → Ext w0 w → CV Try.prog g (.agg (pieceC x).toArray :: cl).toArray w (.bool (p x))) : CV Try.prog 105 #[v, .func (.func g) #[] cl.toArray] w0 (.int .i64 (idxF p l 0)) := by
  obtain ⟨a, cap, rfl, hcap, hmx, hel⟩ := hsl
  refine enter Try.func105 rfl Try.ntmps105 rfl ?_
  have hS := St.start w0
  refine seq ?_
  refine region ?_
  refine sv (yAsg rfl) ?_
  refine nil ?_
  show Code.wp _ _ _ _ _
  refine seq ?_
  refine seq ?_
  refine region ?_
  refine sv (yMove rfl) ?_
  refine sv (yLen rfl Try.underlying110) ?_
  refine sv (yMove rfl) ?_
  refine nil ?_
  show Code.wp _ _ _ _ _
  refine block ?_
  refine loop (fun f w zz => ∃ (k : Nat), f 0 = .slice a l.length cap ∧ f 1 = .func (.func g) #[] cl.toArray ∧ f 7 = .int .i64 (l.length : Int) ∧ f 8 = .int .i64 (k : Int) ∧ StX [] w0 w [] ∧ (k ≤ l.length) ∧ (idxF p l 0 = idxF p (l.drop k) k) ∧ zz = l.length - k) _ ⟨_, rfl, 0, rfl, rfl, rfl, rfl, hS, (Nat.zero_le _), (rfl), rfl⟩ ?_
  clear hS
  rintro f w _ ⟨k, h0, h1, h7, h8, hS, hk, hI, rfl⟩
  refine seq ?_
  refine region ?_
  refine sv (yLss h8 h7) ?_
  refine nil ?_
  show Code.wp _ _ _ _ _
  refine seq ?_
  refine cond rfl (fun c9 => ?_) (fun c9 => ?_)
  ·
    simp only [Bool.and_eq_true, Bool.or_eq_true, Bool.and_eq_false_iff, Bool.or_eq_false_iff, decide_eq_true_eq, decide_eq_false_iff_not, Bool.not_eq_true, Bool.not_eq_false, Bool.not_not, Bool.not_eq_eq_eq_not, Bool.not_true, Bool.not_false, Bool.false_eq_true, Bool.true_eq_false, ne_eq, Decidable.not_not, not_false_eq_true, not_true_eq_false] at c9
    refine skip ?_
    show Code.wp _ _ _ _ _
    refine seq ?_
    refine block ?_
    refine seq ?_
    refine region ?_
    refine sv (yMove h8) ?_
    refine sv (yAsg rfl) ?_
    refine nil ?_
    show Code.wp _ _ _ _ _
    refine seq ?_
    refine region ?_
    obtain ⟨x, hx, hd⟩ := drop_of (l := l) (k := k) (by omega)
    obtain ⟨b, o, cs, ha, hlen, hcs, hR⟩ := hel k (by omega)
    obtain rfl : x = l[k] := (List.getElem?_eq_some_iff.1 hx).2.symm
    obtain ⟨rfl, -⟩ := hR
    refine sv (yMove h1) ?_
    refine sv (yMove h0) ?_
    refine sv (yMove rfl) ?_
    refine sv (yIxa rfl ha rfl Try.runUnderlying110 Try.sizeOf113 (by omega) (by omega)) ?_
    refine sv (yLdA rfl Try.isAgg113 Try.sizeOf113 (hcs.ext hS.ext) rfl) ?_
    refine scallf rfl hcall (.cons rfl .nil) (hp _ _ (List.getElem_mem _) hS.ext) ?_
    rintro _ w ⟨rfl, hE⟩; replace hS := hS.step hE; clear hE
    refine nil ?_
    show Code.wp _ _ _ _ _
    refine cond rfl (fun c16 => ?_) (fun c16 => ?_)
    ·
      refine seq ?_
      refine region ?_
      refine sv (yMove rfl) ?_
      refine sv (yAsg rfl) ?_
      refine nil ?_
      show Code.wp _ _ _ _ _
      refine wp_ret (blockR (thenR (thenR (blockR (thenR ?_)))))
      exact retV (res1 rfl (by rw [hI, hd, idxF, if_pos c16]; rfl)) hS.ext
    ·
      refine skip ?_
      show Code.wp _ _ _ _ _
      refine region ?_
      refine sv (yAdd h8 rfl ⟨by omega, by omega⟩) ?_
      refine sv (yMove rfl) ?_
      refine nil ?_
      exact ⟨_, _, rfl, ⟨k + 1, h0, h1, h7, rfl, hS, (by omega), (by rw [hI, hd, idxF, if_neg (by simp [c16])]; rfl), rfl⟩, by omega⟩
  ·
    simp only [Bool.and_eq_true, Bool.or_eq_true, Bool.and_eq_false_iff, Bool.or_eq_false_iff, decide_eq_true_eq, decide_eq_false_iff_not, Bool.not_eq_true, Bool.not_eq_false, Bool.not_not, Bool.not_eq_eq_eq_not, Bool.not_true, Bool.not_false, Bool.false_eq_true, Bool.true_eq_false, ne_eq, Decidable.not_not, not_false_eq_true, not_true_eq_false] at c9
    refine exit ?_
    show Code.wp _ _ _ _ _
    refine seq ?_
    refine region ?_
    refine sv (yAsg rfl) ?_
    refine nil ?_
    show Code.wp _ _ _ _ _
    obtain rfl : k = l.length := by omega
    refine wp_ret ?_
    exact retV (res1 rfl (by rw [hI, List.drop_length]; rfl)) hS.ext
/-- slices.ContainsFunc   barrage/tide.piece,barrage/tide.piece  -/
theorem c_ContainsFuncP {l : List (Span × Int)} {p : Span × Int → Bool} {v : Value} {g : Nat} {cl : List Value} {w0 : World} (hsl : Sl w0 3 (fun (_ : World) cs x => cs = pieceC x ∧ True) v l) (hcall : ∀ ys w, (callFunc g ys).run Try.prog w = .ok (.enter g ys) w) (hp : ∀ x w, x ∈ l → Ext w0 w → CV Try.prog g (.agg (pieceC x).toArray :: cl).toArray w (.bool (p x))) : CV Try.prog 84 #[v, .func (.func g) #[] cl.toArray] w0 (.bool (l.any p)) := by
  refine enter Try.func84 rfl Try.ntmps84 rfl ?_
  have hS := St.start w0
  refine seq ?_
  refine region ?_
  refine sv (yAsg rfl) ?_
  refine nil ?_
  show Code.wp _ _ _ _ _
  refine seq ?_
  refine region ?_
  refine sv (yMove rfl) ?_
  refine sv (yMove rfl) ?_
  refine scall Try.call105 (.cons rfl (.cons rfl .nil)) (c_IndexFuncP hsl hcall hp) ?_
  rintro _ w ⟨rfl, hE⟩; replace hS := hS.step hE; clear hE
  refine sv (yGeq rfl rfl) ?_
  refine sv (yAsg rfl) ?_
  refine nil ?_
  show Code.wp _ _ _ _ _
  refine wp_ret ?_
  exact retV (res1 rfl (by rw [← idxF_any p l 0 (Int.le_refl 0)]; rfl)) hS.ext
set_option maxHeartbeats 2000000 in
/-- slices.DeleteFunc   barrage/tide.piece,barrage/tide.piece  -/
theorem c_DeleteFuncP {l : List (Span × Int)} {p : Span × Int → Bool} {a : Option Addr} {cap g : Nat} {cl : List Value} {w0 : World} (hr : w0.ownsRow 0 113 3 (.slice a l.length cap) l.length (l.flatMap pieceC)) (hcall : ∀ ys w, (callFunc g ys).run Try.prog w = .ok (.enter g ys) w) (hp : ∀ x w, x ∈ l → ExtX (Value.slice a l.length cap).ownBlock.toList w0 w → CV Try.prog g (.agg (pieceC x).toArray :: cl).toArray w (.bool (p x))) (hlen : l.length ≤ 1000) : CE Try.prog 77 #[.slice a l.length cap, .func (.func g) #[] cl.toArray] w0 (fun u w' => u = .slice a (l.filter fun x => !p x).length cap ∧ StX (Value.slice a l.length cap).ownBlock.toList w0 w' [rowI (.slice a (l.filter fun x => !p x).length cap) 113 3 (l.filter fun x => !p x).length ((l.filter fun x => !p x).flatMap pieceC)]) := by
  refine enter Try.func77 rfl Try.ntmps77 rfl ?_
  have hS := StX.startR hr
  refine seq ?_
  refine region ?_
  refine sv (yAsg rfl) ?_
  refine nil ?_
  show Code.wp _ _ _ _ _
  refine seq ?_
  refine region ?_
  refine sv (yMove rfl) ?_
  refine sv (yMove rfl) ?_
  refine scall Try.call105 (.cons rfl (.cons rfl .nil)) (c_IndexFuncP (row_sl flat3 (hS.row (.slice a l.length cap)) (fun _ _ => trivial)) hcall (fun x w hx e => hp x w hx (hS.extx.trans e))) ?_
  rintro _ w ⟨rfl, hE⟩; replace hS := hS.step hE; clear hE
  have hix := idxF_spec p l 0 (Int.le_refl 0)
  generalize idxF p l 0 = ix at hix ⊢
  refine sv (yAsg rfl) ?_
  refine nil ?_
  show Code.wp _ _ _ _ _
  refine seq ?_
  refine seq ?_
  refine region ?_
  refine sv (yMove rfl) ?_
  refine sv (yEql rfl rfl) ?_
  refine nil ?_
  show Code.wp _ _ _ _ _
  refine cond rfl (fun c12 => ?_) (fun c12 => ?_)
  ·
    simp only [Bool.and_eq_true, Bool.or_eq_true, Bool.and_eq_false_iff, Bool.or_eq_false_iff, decide_eq_true_eq, decide_eq_false_iff_not, Bool.not_eq_true, Bool.not_eq_false, Bool.not_not, Bool.not_eq_eq_eq_not, Bool.not_true, Bool.not_false, Bool.false_eq_true, Bool.true_eq_false, ne_eq, Decidable.not_not, not_false_eq_true, not_true_eq_false] at c12
    have hfl : (l.filter fun x => !p x) = l := by
      rcases hix with ⟨-, h⟩ | ⟨k, -, h, -⟩
      · exact h
      · omega
    refine seq ?_
    refine region ?_
    refine sv (yMove rfl) ?_
    refine sv (yAsg rfl) ?_
    refine nil ?_
    show Code.wp _ _ _ _ _
    refine wp_ret (thenR ?_)
    refine retQ (res1 rfl rfl) ?_
    rw [hfl]
    exact ⟨rfl, hS⟩
  ·
    simp only [Bool.and_eq_true, Bool.or_eq_true, Bool.and_eq_false_iff, Bool.or_eq_false_iff, decide_eq_true_eq, decide_eq_false_iff_not, Bool.not_eq_true, Bool.not_eq_false, Bool.not_not, Bool.not_eq_eq_eq_not, Bool.not_true, Bool.not_false, Bool.false_eq_true, Bool.true_eq_false, ne_eq, Decidable.not_not, not_false_eq_true, not_true_eq_false] at c12
    obtain ⟨i0, hi0, hie, hi1, z, hz, hpz⟩ := hix.resolve_left (fun h => c12 h.1)
    obtain ⟨gb, rfl, -⟩ := row_get (hS.row (.slice a l.length cap)) (by omega)
    obtain rfl : ix = (i0 : Int) := by omega
    have hcap : l.length ≤ cap := by
      obtain ⟨g2, c2, e2, h2, -⟩ := row_some (hS.row (.slice (some ⟨gb, 0, none⟩) l.length cap)) (by omega)
      obtain ⟨-, rfl⟩ := slice_inj e2
      exact h2
    refine skip ?_
    show Code.wp _ _ _ _ _
    refine seq ?_
    refine seq ?_
    refine region ?_
    refine sv (yMove rfl) ?_
    refine sv (yAdd rfl rfl ⟨by omega, by omega⟩) ?_
    refine sv (yAsg rfl) ?_
    refine nil ?_
    show Code.wp _ _ _ _ _
    refine block ?_
    have htl : (l.take i0).length = i0 := by simp; omega
    refine loop (fun f w zz => ∃ (ks js : PL) (j : Nat), f 0 = .slice (some ⟨gb, 0, none⟩) l.length cap ∧ f 1 = .func (.func g) #[] cl.toArray ∧ f 5 = .int .i64 (ks.length : Int) ∧ f 6 = .int .i64 (j : Int) ∧ StX (Value.slice (some ⟨gb, 0, none⟩) l.length cap).ownBlock.toList w0 w ([rowI (.slice (some ⟨gb, 0, none⟩) l.length cap) 113 3 l.length ((ks ++ js ++ l.drop j).flatMap pieceC)]) ∧ (j ≤ l.length) ∧ (ks.length + js.length = j) ∧ (js ≠ []) ∧ ((l.filter fun x => !p x) = ks ++ (l.drop j).filter fun x => !p x) ∧ zz = l.length - j) _ ⟨_, rfl, l.take i0, [z], i0 + 1, rfl, rfl, (by rw [htl]; exact rfl), rfl, (by rw [cut_at hz]; exact hS), (by omega), (by rw [htl]; rfl), (by simp), (filter_at hz hi1 hpz), rfl⟩ ?_
    clear hS
    rintro f w _ ⟨ks, js, j, h0, h1, h5, h6, hS, hj, hl, hne, hI, rfl⟩
    refine seq ?_
    refine seq ?_
    refine region ?_
    refine sv (yMove h6) ?_
    refine sv (yMove h0) ?_
    refine sv (yLen rfl Try.underlying110) ?_
    refine sv (yLss rfl rfl) ?_
    refine nil ?_
    show Code.wp _ _ _ _ _
    refine cond rfl (fun c19 => ?_) (fun c19 => ?_)
    ·
      simp only [Bool.and_eq_true, Bool.or_eq_true, Bool.and_eq_false_iff, Bool.or_eq_false_iff, decide_eq_true_eq, decide_eq_false_iff_not, Bool.not_eq_true, Bool.not_eq_false, Bool.not_not, Bool.not_eq_eq_eq_not, Bool.not_true, Bool.not_false, Bool.false_eq_true, Bool.true_eq_false, ne_eq, Decidable.not_not, not_false_eq_true, not_true_eq_false] at c19
      obtain ⟨x, hx, hd⟩ := drop_of (l := l) (k := j) (by omega)
      refine skip ?_
      show Code.wp _ _ _ _ _
      refine seq ?_
      refine block ?_
      refine seq ?_
      refine region ?_
      refine sv (yMove h0) ?_
      refine sv (yMove h6) ?_
      refine sv (yIx0 rfl rfl Try.runUnderlying110 Try.sizeOf113 (by omega)) ?_
      refine sv (yLdA rfl Try.isAgg113 Try.sizeOf113 (flat_cells0 pieceC_len (row_at (hS.row (.slice (some ⟨gb, 0, none⟩) l.length cap)) rfl (by omega)) (mid_get hl hx)) rfl) ?_
      refine salloc hS Try.zeroValue113 rfl ?_; clear hS; intro b7 w hS
      refine sst hS rfl rfl Try.sizeOf113 rfl rfl rfl rfl ?_; clear hS; intro w hS
      refine nil ?_
      show Code.wp _ _ _ _ _
      refine seq ?_
      refine region ?_
      refine sv (yMove h1) ?_
      refine sv (yLdBA rfl Try.isAgg113 Try.sizeOf113 (hS.at _) rfl rfl) ?_
      refine scallf rfl hcall (.cons rfl .nil) (hp x _ (List.mem_of_getElem? hx) hS.extx) ?_
      rintro _ w ⟨rfl, hE⟩; replace hS := hS.step hE; clear hE
      refine sv (yNot rfl) ?_
      refine nil ?_
      show Code.wp _ _ _ _ _
      refine cond rfl (fun c29 => ?_) (fun c29 => ?_)
      ·
        simp only [Bool.not_eq_true', Bool.not_eq_false', Bool.not_eq_true, Bool.not_eq_false] at c29
        refine seq ?_
        refine region ?_
        refine sv (yMove h0) ?_
        refine sv (yMove h5) ?_
        refine sv (yLdBA rfl Try.isAgg113 Try.sizeOf113 (hS.at _) rfl rfl) ?_
        refine sv (yIx0 rfl rfl Try.runUnderlying110 Try.sizeOf113 (by have := List.length_pos_iff.2 hne; omega)) ?_
        refine srst (m := l.length) (cap := cap) (sz := 3) hS rfl rfl Try.sizeOf113 rfl rfl (by have := List.length_pos_iff.2 hne; omega) rfl ?_; clear hS; intro w hS
        refine nil ?_
        show Code.wp _ _ _ _ _
        refine region ?_
        refine sv (yMove h5) ?_
        refine sv (yAdd rfl rfl ⟨by omega, by omega⟩) ?_
        refine sv (yAsg rfl) ?_
        refine nil ?_
        show Code.wp _ _ _ _ _
        refine region ?_
        refine sv (yMove h6) ?_
        refine sv (yAdd rfl rfl ⟨by omega, by omega⟩) ?_
        refine sv (yAsg rfl) ?_
        refine nil ?_
        exact ⟨_, _, rfl, ⟨ks ++ [x], js.tail ++ [x], j + 1, h0, h1, (by rw [List.length_append]; exact rfl), rfl, (by rw [gap_out hx hne]; exact hS.sub (.cons _ (List.Sublist.refl _))), (by omega), (by simp; have := List.length_pos_iff.2 hne; omega), (by simp), (by rw [hI, hd, List.filter_cons_of_pos (by simpa using c29)]; simp), rfl⟩, by omega⟩
      ·
        simp only [Bool.not_eq_true', Bool.not_eq_false', Bool.not_eq_true, Bool.not_eq_false] at c29
        refine skip ?_
        show Code.wp _ _ _ _ _
        refine region ?_
        refine sv (yMove h6) ?_
        refine sv (yAdd rfl rfl ⟨by omega, by omega⟩) ?_
        refine sv (yAsg rfl) ?_
        refine nil ?_
        exact ⟨_, _, rfl, ⟨ks, js ++ [x], j + 1, h0, h1, h5, rfl, (by rw [gap_in hx]; exact hS.sub (.cons _ (List.Sublist.refl _))), (by omega), (by simp; omega), (by simp), (by rw [hI, hd, List.filter_cons_of_neg (by simp [c29])]), rfl⟩, by omega⟩
    ·
      simp only [Bool.and_eq_true, Bool.or_eq_true, Bool.and_eq_false_iff, Bool.or_eq_false_iff, decide_eq_true_eq, decide_eq_false_iff_not, Bool.not_eq_true, Bool.not_eq_false, Bool.not_not, Bool.not_eq_eq_eq_not, Bool.not_true, Bool.not_false, Bool.false_eq_true, Bool.true_eq_false, ne_eq, Decidable.not_not, not_false_eq_true, not_true_eq_false] at c19
      obtain rfl : j = l.length := by omega
      rw [List.drop_length] at hI
      have hfin : (l.filter fun x => !p x) = ks := by rw [hI]; simp
      refine exit ?_
      show Code.wp _ _ _ _ _
      refine seq ?_
      refine region ?_
      refine sv (yMove h0) ?_
      refine sv (yMove h5) ?_
      refine sv (yTail rfl rfl Try.underlying110 Try.sizeOf113 (by omega)) ?_
      refine sclear (i := ks.length) (m := l.length) hS rfl Try.underlying110 Try.zeroValue113 rfl (by decide) (by decide) (by omega) ?_; clear hS; intro w hS
      refine nil ?_
      show Code.wp _ _ _ _ _
      refine seq ?_
      refine region ?_
      refine sv (yMove h0) ?_
      refine sv (yMove h5) ?_
      refine sv (yHead ⟨_, rfl⟩ rfl rfl Try.underlying110 Try.sizeOf113 (by omega)) ?_
      refine sv (yAsg rfl) ?_
      refine nil ?_
      show Code.wp _ _ _ _ _
      refine wp_ret ?_
      refine retQ (res1 rfl rfl) ?_
      rw [hfin]
      rw [List.append_assoc, take_flat] at hS
      exact ⟨rfl, hS⟩
end Go.Proofs.Ytpgmehignepidaa
/- part P18 -/
namespace Bx
open Go Go.RowKit
theorem gErrs_zero : ∀ {l : List Gauge}, gErrs l = 0 → ∀ g ∈ l, (checkG g).2.2 = 0
  | [], _, _, h => by cases h
  | x :: l, h0, g, h => by
    by_cases hx : (checkG x).2.2 = 0
    · have h1 : gErrs l = 0 := by rw [gErrs, if_neg (fun k => k hx)] at h0; exact h0
      rcases List.mem_cons.1 h with rfl | h
      · exact hx
      · exact gErrs_zero h1 g h
    · rw [gErrs, if_pos hx] at h0; exact absurd h0 hx
theorem gaugesE_zero {l : List Gauge} {t now : Int} (h : gaugesE l t now = 0) : l.length ≤ 8 ∧ (∀ g ∈ l, GaugeOk g) ∧ (namesG l).Nodup ∧ ticksE [t, now] = 0 := by
  unfold gaugesE at h
  split at h
  · cases h
  split at h
  · rename_i h1 h2; exact absurd h h2
  split at h
  · cases h
  · rename_i h1 h2 h3
    exact ⟨by omega, fun g hg => gaugeOk_of (gErrs_zero (by omega) g hg), Classical.not_not.1 h3, h⟩
def soundE (l : List Gauge) (wrong t now : Int) : Int := if gaugesE l t now ≠ 0 then gaugesE l t now else if outB wrong 0 (l.length - 1) = true then 7 else 0
def enough (need : Int) (ps : PL) : PL := ps.filter fun p => !(decide (p.2 < need))
def soundP (ps : PL) : Span × Int := if ps = [] then (⟨0, 0⟩, 9) else (⟨(ps.getD 0 (⟨0, 0⟩, 0)).1.lo, (ps.getD (ps.length - 1) (⟨0, 0⟩, 0)).1.hi⟩, 0)
def soundF (l : List Gauge) (wrong t now : Int) : Span × Int := if soundE l wrong t now ≠ 0 then (⟨0, 0⟩, soundE l wrong t now) else soundP (enough (l.length - wrong) (piecesF t now l))
theorem soundE_g {l : List Gauge} {wrong t now : Int} (h : gaugesE l t now ≠ 0) : soundE l wrong t now = gaugesE l t now := by unfold soundE; rw [if_pos h]
theorem soundE_w {l : List Gauge} {wrong t now : Int} (h : ¬ gaugesE l t now ≠ 0) (h2 : outB wrong 0 (l.length - 1) = true) : soundE l wrong t now = 7 := by unfold soundE; rw [if_neg h, if_pos h2]
theorem soundE_ok {l : List Gauge} {wrong t now : Int} (h : ¬ gaugesE l t now ≠ 0) (h2 : outB wrong 0 (l.length - 1) = false) : soundE l wrong t now = 0 := by unfold soundE; rw [if_neg h, if_neg (by rw [h2]; decide)]
theorem soundF_e {l : List Gauge} {wrong t now : Int} {e : Int} (h : soundE l wrong t now = e) (h0 : e ≠ 0) : soundF l wrong t now = (⟨0, 0⟩, e) := by unfold soundF; rw [h, if_pos h0]
theorem soundF_ok {l : List Gauge} {wrong t now : Int} (h : soundE l wrong t now = 0) : soundF l wrong t now = soundP (enough (l.length - wrong) (piecesF t now l)) := by unfold soundF; rw [h, if_neg (by simp)]
theorem soundP_nil : soundP [] = (⟨0, 0⟩, 9) := rfl
theorem soundP_some {ps : PL} (h : ps ≠ []) : soundP ps = (⟨(ps.getD 0 (⟨0, 0⟩, 0)).1.lo, (ps.getD (ps.length - 1) (⟨0, 0⟩, 0)).1.hi⟩, 0) := by unfold soundP; rw [if_neg h]
theorem getD_some {α : Type} {l : List α} {i : Nat} {d : α} (h : i < l.length) : l[i]? = some (l.getD i d) := by simp [h]
theorem ticks2b {a b : Int} (h : ticksE [a, b] = 0) : Bd a 0 200000 ∧ Bd b 0 200000 := by
  unfold ticksE at h
  split at h
  · cases h
  · rename_i h1
    simp only [List.any_cons, List.any_nil, Bool.or_false, Bool.not_eq_true, Bool.or_eq_false_iff] at h1
    exact ⟨outB_false.1 h1.1, outB_false.1 h1.2⟩
theorem own_slice {a : Option Addr} {n m c d : Nat} : (Value.slice a n c).ownBlock = (Value.slice a m d).ownBlock := by cases a <;> rfl
/-- The blocks of two parts are apart. -/
theorem StX.apart2 {S : List Nat} {w0 w : World} {x y : Item} (h : StX S w0 w [x, y]) {b : Nat} (hb : b ∈ x.fp) : b ∉ y.fp := by
  have h1 : (x.fp ++ (y.fp ++ [])).Nodup := h.apart
  intro hy
  exact (List.nodup_append.1 h1).2.2 b hb b (by simpa using hy) rfl
theorem pieces_len (S : List (Int × Int)) : ∀ (m : Int), (piecesL S m).length ≤ S.length := by
  induction S with
  | nil => intro m; exact Nat.le_refl _
  | cons x r ih =>
    intro m
    cases r with
    | nil => simp [piecesL]
    | cons y r =>
      simp only [piecesL]
      have := ih (m + (1 - 2 * x.2))
      split
      · simp only [List.length_cons] at *; omega
      · simp only [List.length_cons] at *; omega
theorem piecesF_len (t now : Int) (l : List Gauge) : (piecesF t now l).length ≤ 2 * l.length := by
  have h1 := pieces_len (sortE (endsF (spk t now l))) 0
  have h2 : (spk t now l).length ≤ l.length := spkF_len t now l 0
  rw [sortE_len, endsF_len] at h1
  unfold piecesF
  omega
end Bx
/- part Wk27 -/
namespace Go.Proofs.Ytpgmehignepidaa
open Go Bx
/-- barrage/tide.Sound closure 1 -/
theorem c_Sound1 {x : Span × Int} {b b2 len cap : Nat} {a : Option Addr} {T T2 : TypeId} {wrong : Int} {w0 : World} (hb : w0.heap[b]? = some (.cells [.slice a len cap].toArray T (0, 0))) (h2 : w0.heap[b2]? = some (.cells [.int .i64 wrong].toArray T2 (0, 0))) (hI : I64 ((len : Int) - wrong)) : CV Try.prog 79 #[.agg (pieceC x).toArray, .pointer (some ⟨b, 0, none⟩), .pointer (some ⟨b2, 0, none⟩)] w0 (.bool (decide (x.2 < (len : Int) - wrong))) := by
  refine enter Try.func79 rfl Try.ntmps79 rfl ?_
  have hS := St.start w0
  refine seq ?_
  refine region ?_
  refine sbox hS rfl rfl ?_; clear hS; intro b3 w hS
  refine sv (yAsg rfl) ?_
  refine nil ?_
  show Code.wp _ _ _ _ _
  refine seq ?_
  refine region ?_
  refine sv (fa113_1 rfl) ?_
  refine sv (yLdB rfl Try.isAgg3 (hS.at _) rfl) ?_
  refine sv (yLdB rfl Try.isAgg66 (hS.ext.get hb) rfl) ?_
  refine sv (yLen rfl Try.underlying66) ?_
  refine sv (yLdB rfl Try.isAgg3 (hS.ext.get h2) rfl) ?_
  refine sv (ySub rfl rfl hI) ?_
  refine sv (yLss rfl rfl) ?_
  refine sv (yAsg rfl) ?_
  refine nil ?_
  show Code.wp _ _ _ _ _
  refine wp_ret ?_
  exact retV (res1 rfl rfl) hS.ext
set_option maxHeartbeats 2000000 in
/-- barrage/tide.Sound -/
theorem c_Sound {l : List Gauge} {v : Value} {wrong t now : Int} {w0 : World} (hl : Sl w0 5 RGauge v l) (hw : I64 wrong) (ht : I64 t) (hn : I64 now) : CV Try.prog 37 #[v, .int .i64 wrong, .int .i64 t, .int .i64 now] w0 (.tuple #[.agg (spanC (soundF l wrong t now).1).toArray, .int .i64 (soundF l wrong t now).2]) := by
  obtain ⟨a, cap, rfl, hcap, hmx, hel⟩ := id hl
  refine enter Try.func37 rfl Try.ntmps37 rfl ?_
  have hS := St.start w0
  refine seq ?_
  refine region ?_
  refine sbox hS rfl rfl ?_; clear hS; intro b4 w hS
  refine sbox hS rfl rfl ?_; clear hS; intro b5 w hS
  refine salloc hS Try.zeroValue38 rfl ?_; clear hS; intro b8 w hS
  refine sv (yAsg rfl) ?_
  refine nil ?_
  show Code.wp _ _ _ _ _
  refine seq ?_
  refine region ?_
  refine sv (yLdB rfl Try.isAgg66 (hS.at _) rfl) ?_
  refine sv (yMove rfl) ?_
  refine sv (yMove rfl) ?_
  refine scall Try.call76 (.cons rfl (.cons rfl (.cons rfl .nil))) (c_gauges (hl.ext RGauge.stays hS.ext) ht hn) ?_
  rintro _ w ⟨rfl, hE⟩; replace hS := hS.step hE; clear hE
  refine sv (yAsg rfl) ?_
  refine nil ?_
  show Code.wp _ _ _ _ _
  refine seq ?_
  refine block ?_
  refine seq ?_
  refine region ?_
  refine sv (yMove rfl) ?_
  refine sv (yNeq rfl rfl) ?_
  refine sv (yAsg rfl) ?_
  refine nil ?_
  show Code.wp _ _ _ _ _
  refine cond rfl (fun c16 => ?_) (fun c16 => ?_)
  ·
    have c16 : gaugesE l t now ≠ 0 := of_decide_eq_true c16
    have hfin := soundF_e (soundE_g (wrong := wrong) c16) c16
    refine seq ?_
    refine region ?_
    refine sv (yBuild Try.zeroValue38 rfl pl38 .nil rfl) ?_
    refine sv (yMove rfl) ?_
    refine sst hS rfl rfl Try.sizeOf38 rfl rfl rfl rfl ?_; clear hS; intro w hS
    refine sv (yAsg rfl) ?_
    refine nil ?_
    show Code.wp _ _ _ _ _
    refine wp_ret (blockR (thenR ?_))
    exact retV (resV2 rfl (rc rfl Try.isAgg38 Try.sizeOf38 (hS.at _) (by rw [hfin]; rfl) rfl) (rt (eqI (by rw [hfin])))) hS.ext
  ·
    have c16 : ¬ gaugesE l t now ≠ 0 := of_decide_eq_false c16
    obtain ⟨h8, hok, hnd, htk⟩ := gaugesE_zero (Classical.not_not.1 c16)
    obtain ⟨htb, hnb⟩ := ticks2b htk
    refine seq ?_
    refine region ?_
    refine sv (yLdB rfl Try.isAgg3 (hS.at _) rfl) ?_
    refine sv (yLdB rfl Try.isAgg66 (hS.at _) rfl) ?_
    refine sv (yLen rfl Try.underlying66) ?_
    refine sv (ySub rfl rfl ⟨by omega, by omega⟩) ?_
    refine scall Try.call54 (.cons rfl (.cons rfl (.cons rfl .nil))) c_out ?_
    rintro _ w ⟨rfl, hE⟩; replace hS := hS.step hE; clear hE
    refine sv (yAsg rfl) ?_
    refine nil ?_
    show Code.wp _ _ _ _ _
    refine cond rfl (fun c21 => ?_) (fun c21 => ?_)
    ·
      have hfin := soundF_e (soundE_w c16 c21) (by decide)
      refine seq ?_
      refine region ?_
      refine sv (yBuild Try.zeroValue38 rfl pl38 .nil rfl) ?_
      refine sst hS rfl rfl Try.sizeOf38 rfl rfl rfl rfl ?_; clear hS; intro w hS
      refine sv (yAsg rfl) ?_
      refine nil ?_
      show Code.wp _ _ _ _ _
      refine wp_ret (blockR (thenR ?_))
      exact retV (resV2 rfl (rc rfl Try.isAgg38 Try.sizeOf38 (hS.at _) (by rw [hfin]; rfl) rfl) (rt (eqI (by rw [hfin])))) hS.ext
    ·
      have h0 := soundE_ok c16 c21
      have hwb := outB_false.1 c21
      have hI : I64 ((l.length : Int) - wrong) := ⟨by omega, by omega⟩
      refine skip ?_
      show Code.wp _ _ _ _ _
      refine seq ?_
      refine region ?_
      refine sv (yLdB rfl Try.isAgg66 (hS.at _) rfl) ?_
      refine sv (yMove rfl) ?_
      refine sv (yMove rfl) ?_
      refine scall Try.call78 (.cons rfl (.cons rfl (.cons rfl .nil))) (c_pieces (hl.ext RGauge.stays hS.ext) hok htb (by omega)) ?_
      rintro pv w hM; replace hS := hS.call1 hM; clear hM; obtain ⟨ap, cp, rfl⟩ := row_shape (hS.row pv)
      have hpl := piecesF_len t now l
      have hb4 : b4 ∉ (Value.slice ap (piecesF t now l).length cp).ownBlock.toList := fun h => (hS.sub (M := [rowI (.slice ap (piecesF t now l).length cp) 113 3 (piecesF t now l).length ((piecesF t now l).flatMap pieceC), blk b4 [.slice a l.length cap] 66]) (.cons_cons _ (.cons _ (.cons _ (.cons_cons _ (List.nil_sublist _)))))).apart2 h (by simp [cellI])
      have hb5 : b5 ∉ (Value.slice ap (piecesF t now l).length cp).ownBlock.toList := fun h => (hS.sub (M := [rowI (.slice ap (piecesF t now l).length cp) 113 3 (piecesF t now l).length ((piecesF t now l).flatMap pieceC), blk b5 [.int .i64 wrong] 3]) (.cons_cons _ (.cons _ (.cons_cons _ (List.nil_sublist _))))).apart2 h (by simp [cellI])
      refine sv (yFn (.cons rfl (.cons rfl .nil))) ?_
      refine scall Try.call77 (.cons rfl (.cons rfl .nil)) (c_DeleteFuncP (l := piecesF t now l) (p := fun x => decide (x.2 < (l.length : Int) - wrong)) (cl := [.pointer (some ⟨b4, 0, none⟩), .pointer (some ⟨b5, 0, none⟩)]) (hS.row (.slice ap (piecesF t now l).length cp)) Try.call79 (fun x w _ e => c_Sound1 (e.get (hS.at b4) hb4) (e.get (hS.at b5) hb5) hI) (by omega)) ?_
      rintro u w ⟨hu, hM⟩
      have hu2 : u = .slice ap (enough ((l.length : Int) - wrong) (piecesF t now l)).length cp := hu
      subst hu2
      clear hu
      replace hM : StX (Value.slice ap (piecesF t now l).length cp).ownBlock.toList _ w [rowI (.slice ap (enough ((l.length : Int) - wrong) (piecesF t now l)).length cp) 113 3 (enough ((l.length : Int) - wrong) (piecesF t now l)).length ((enough ((l.length : Int) - wrong) (piecesF t now l)).flatMap pieceC)] := hM
      replace hS := hS.app (v := .slice ap (piecesF t now l).length cp) (v' := .slice ap (enough ((l.length : Int) - wrong) (piecesF t now l)).length cp) (hM.row _) hM.grown (.inl own_slice)
      clear hM hb4 hb5
      generalize hee : enough ((l.length : Int) - wrong) (piecesF t now l) = ee at hS ⊢
      refine sv (yAsg rfl) ?_
      refine nil ?_
      show Code.wp _ _ _ _ _
      refine seq ?_
      refine seq ?_
      refine region ?_
      refine sv (yMove rfl) ?_
      refine sv (yLen rfl Try.underlying110) ?_
      refine sv (yEql rfl rfl) ?_
      refine nil ?_
      show Code.wp _ _ _ _ _
      refine cond rfl (fun c36 => ?_) (fun c36 => ?_)
      ·
        simp only [Bool.and_eq_true, Bool.or_eq_true, Bool.and_eq_false_iff, Bool.or_eq_false_iff, decide_eq_true_eq, decide_eq_false_iff_not, Bool.not_eq_true, Bool.not_eq_false, Bool.not_not, Bool.not_eq_eq_eq_not, Bool.not_true, Bool.not_false, Bool.false_eq_true, Bool.true_eq_false, ne_eq, Decidable.not_not, not_false_eq_true, not_true_eq_false] at c36
        obtain rfl : ee = [] := List.eq_nil_of_length_eq_zero (by omega)
        have hfin : soundF l wrong t now = (⟨0, 0⟩, 9) := by rw [soundF_ok h0, hee]; rfl
        refine seq ?_
        refine region ?_
        refine sv (yBuild Try.zeroValue38 rfl pl38 .nil rfl) ?_
        refine sst hS rfl rfl Try.sizeOf38 rfl rfl rfl rfl ?_; clear hS; intro w hS
        refine sv (yAsg rfl) ?_
        refine nil ?_
        show Code.wp _ _ _ _ _
        refine wp_ret (thenR ?_)
        exact retV (resV2 rfl (rc rfl Try.isAgg38 Try.sizeOf38 (hS.at _) (by rw [hfin]; rfl) rfl) (rt (eqI (by rw [hfin])))) hS.ext
      ·
        simp only [Bool.and_eq_true, Bool.or_eq_true, Bool.and_eq_false_iff, Bool.or_eq_false_iff, decide_eq_true_eq, decide_eq_false_iff_not, Bool.not_eq_true, Bool.not_eq_false, Bool.not_not, Bool.not_eq_eq_eq_not, Bool.not_true, Bool.not_false, Bool.false_eq_true, Bool.true_eq_false, ne_eq, Decidable.not_not, not_false_eq_true, not_true_eq_false] at c36
        have hne : ee ≠ [] := fun h => by rw [h] at c36; simp at c36
        have hpos := List.length_pos_iff.2 hne
        have heel : ee.length ≤ (piecesF t now l).length := by rw [← hee]; exact List.length_filter_le _ _
        have hfin : soundF l wrong t now = (⟨(ee.getD 0 (⟨0, 0⟩, 0)).1.lo, (ee.getD (ee.length - 1) (⟨0, 0⟩, 0)).1.hi⟩, 0) := by rw [soundF_ok h0, hee, soundP_some hne]
        obtain ⟨gp, rfl, -⟩ := row_get (hS.row (.slice ap ee.length cp)) hpos
        refine skip ?_
        show Code.wp _ _ _ _ _
        refine seq ?_
        refine region_tail mixed 14 (by kernel_rfl) hS ?_
        refine qv (fun w hS => (yMove rfl)) ?_
        refine qv (fun w hS => (yIx0 (m := 0) rfl rfl Try.runUnderlying110 Try.sizeOf113 (by omega))) ?_
        refine qv (fun w hS => (fa113_0 rfl)) ?_
        refine qv (fun w hS => (fa38_0 rfl)) ?_
        refine qv (fun w hS => (yLd rfl Try.isAgg3 ((flat_cells0 pieceC_len (row_at (hS.row (.slice (some ⟨gp, 0, none⟩) ee.length cp)) rfl (by omega)) (getD_some (d := (⟨0, 0⟩, 0)) hpos)).at (j := 0) rfl))) ?_
        refine qv (fun w hS => (yMove rfl)) ?_
        refine qv (fun w hS => (yMove rfl)) ?_
        refine qv (fun w hS => (yLen rfl Try.underlying110)) ?_
        refine qv (fun w hS => (Y.to (ySub rfl rfl ⟨by omega, by omega⟩) (show Value.int .i64 ((ee.length : Int) - 1) = .int .i64 ((ee.length - 1 : Nat) : Int) by congr 1; omega))) ?_
        refine qv (fun w hS => (yIx0 (m := ee.length - 1) rfl rfl Try.runUnderlying110 Try.sizeOf113 (by omega))) ?_
        refine qv (fun w hS => (fa113_0 rfl)) ?_
        refine qv (fun w hS => (fa38_1 rfl)) ?_
        refine qv (fun w hS => (yLd rfl Try.isAgg3 ((flat_cells0 pieceC_len (row_at (hS.row (.slice (some ⟨gp, 0, none⟩) ee.length cp)) rfl (by omega)) (getD_some (d := (⟨0, 0⟩, 0)) (show ee.length - 1 < ee.length by omega))).at (j := 1) rfl))) ?_
        refine qv (fun w hS => (yBuild Try.zeroValue38 rfl pl38 (.cons rfl rfl (.cons rfl rfl .nil)) rfl)) ?_
        clear hS; refine qtl (fun w hS => ?_)
        refine sst hS rfl rfl Try.sizeOf38 rfl rfl rfl rfl ?_; clear hS; intro w hS
        refine sv (yAsg rfl) ?_
        refine nil ?_
        show Code.wp _ _ _ _ _
        refine wp_ret ?_
        exact retV (resV2 rfl (rc rfl Try.isAgg38 Try.sizeOf38 (hS.at _) (by rw [hfin]; rfl) rfl) (rt (eqI (by rw [hfin])))) hS.ext
end Go.Proofs.Ytpgmehignepidaa
/- part P19 -/
namespace Bx
open Go Go.RowKit
def hasG (t now : Int) (g : Gauge) (x : Int) : Bool := decide ((saysG g t now).2 = 0) && inB x (saysG g t now).1.lo (saysG g t now).1.hi
def cntG (t now : Int) (l : List Gauge) (x : Int) : Nat := l.countP fun u => hasG t now u x
def rends (t now : Int) (l : List Gauge) : List Int := l.flatMap fun u => if (saysG u t now).2 = 0 then [(saysG u t now).1.lo, (saysG u t now).1.hi] else []
theorem cntG_take {t now x : Int} {l : List Gauge} {k : Nat} {u : Gauge} (h : l[k]? = some u) : cntG t now (l.take (k + 1)) x = cntG t now (l.take k) x + (if hasG t now u x = true then 1 else 0) := by
  unfold cntG
  rw [take_snoc h, List.countP_append]
  simp [List.countP_cons]
theorem cntG_le (t now x : Int) (l : List Gauge) : cntG t now l x ≤ l.length := List.countP_le_length
theorem rends_take {t now : Int} {l : List Gauge} {k : Nat} {u : Gauge} (h : l[k]? = some u) : rends t now (l.take (k + 1)) = rends t now (l.take k) ++ (if (saysG u t now).2 = 0 then [(saysG u t now).1.lo, (saysG u t now).1.hi] else []) := by
  unfold rends
  rw [take_snoc h, List.flatMap_append]
  simp
theorem rends_len (t now : Int) (l : List Gauge) : (rends t now l).length ≤ 2 * l.length := by
  induction l with
  | nil => exact Nat.le_refl _
  | cons u l ih =>
    unfold rends at *
    rw [List.flatMap_cons, List.length_append]
    simp only [List.length_cons]
    split
    · simp only [List.length_cons, List.length_nil]; omega
    · simp only [List.length_nil]; omega
theorem rends_bd {t now : Int} {l : List Gauge} : ∀ x ∈ rends t now l, Bd x (-20000) 20000 := by
  intro x hx
  obtain ⟨u, _, hx⟩ := List.mem_flatMap.1 hx
  split at hx
  · rename_i h
    have := saysG_bd h
    simp only [List.mem_cons, List.not_mem_nil, or_false] at hx
    rcases hx with rfl | rfl
    · exact ⟨by omega, by omega⟩
    · exact ⟨by omega, by omega⟩
  · cases hx
def stepS (ok : Int → Bool) (o : Option Span) (x : Int) : Option Span := if ok x = true then some ⟨min (o.getD ⟨x, x⟩).lo x, max (o.getD ⟨x, x⟩).hi x⟩ else o
def foldS (ok : Int → Bool) (l : List Int) : Option Span := l.foldl (stepS ok) none
theorem foldS_take {ok : Int → Bool} {l : List Int} {k : Nat} {x : Int} (h : l[k]? = some x) : foldS ok (l.take (k + 1)) = stepS ok (foldS ok (l.take k)) x := by
  unfold foldS
  rw [take_snoc h, List.foldl_append]; rfl
def rSoundO (o : Option Span) : Span × Int := match o with | none => (⟨0, 0⟩, 9) | some s => (s, 0)
def okN (t now : Int) (l : List Gauge) (need x : Int) : Bool := !(decide ((cntG t now l x : Int) < need))
def rSoundF (l : List Gauge) (wrong t now : Int) : Span × Int := if soundE l wrong t now ≠ 0 then (⟨0, 0⟩, soundE l wrong t now) else rSoundO (foldS (okN t now l (l.length - wrong)) (rends t now l))
theorem rSoundF_e {l : List Gauge} {wrong t now : Int} (h : soundE l wrong t now ≠ 0) : rSoundF l wrong t now = (⟨0, 0⟩, soundE l wrong t now) := by unfold rSoundF; rw [if_pos h]
theorem rSoundF_ok {l : List Gauge} {wrong t now : Int} (h : ¬ soundE l wrong t now ≠ 0) : rSoundF l wrong t now = rSoundO (foldS (okN t now l (l.length - wrong)) (rends t now l)) := by unfold rSoundF; rw [if_neg h]
theorem soundE_zero {l : List Gauge} {wrong t now : Int} (h : ¬ soundE l wrong t now ≠ 0) : gaugesE l t now = 0 ∧ Bd wrong 0 (l.length - 1) := by
  unfold soundE at h
  by_cases h1 : gaugesE l t now ≠ 0
  · rw [if_pos h1] at h; exact absurd h1 h
  · rw [if_neg h1] at h
    by_cases h2 : outB wrong 0 (l.length - 1) = true
    · rw [if_pos h2] at h; exact absurd (by decide) h
    · exact ⟨Classical.not_not.1 h1, outB_false.1 (by simpa using h2)⟩
theorem soundE_7 {l : List Gauge} {wrong t now : Int} (h : (decide (gaugesE l t now = 0) && !(inB wrong 0 (l.length - 1))) = true) : soundE l wrong t now = 7 := by
  rw [Bool.and_eq_true, decide_eq_true_eq] at h
  exact soundE_w (fun k => k h.1) (by rw [outB_inB]; exact h.2)
theorem soundE_g2 {l : List Gauge} {wrong t now : Int} (h : (decide (gaugesE l t now = 0) && !(inB wrong 0 (l.length - 1))) = false) : soundE l wrong t now = gaugesE l t now := by
  by_cases h1 : gaugesE l t now = 0
  · rw [h1] at h
    rw [h1]
    exact soundE_ok (fun k => k h1) (by rw [outB_inB]; simpa using h)
  · exact soundE_g h1
end Bx
/- part Wk28 -/
namespace Go.Proofs.Ytpgmehignepidaa
open Go Bx
/-- barrage/barrageref01.has -/
theorem c_rhas {u : Gauge} {cs : List Value} {x t now : Int} {w0 : World} (hg : RGauge w0 cs u) (hok : GaugeOk u) (ht : Bd t 0 200000) : CV Try.prog 86 #[.agg cs.toArray, .int .i64 x, .int .i64 t, .int .i64 now] w0 (.bool (hasG t now u x)) := by
  obtain ⟨dv, rv, rfl, -, -, -, hsd, hsr⟩ := id hg
  obtain ⟨ad, cad, rfl, -⟩ := hsd
  obtain ⟨ar, car, rfl, -⟩ := hsr
  refine enter Try.func86 rfl Try.ntmps86 rfl ?_
  have hS := St.start w0
  refine seq ?_
  refine region ?_
  refine sbox hS rfl rfl ?_; clear hS; intro b4 w hS
  refine sv (yAsg rfl) ?_
  refine nil ?_
  show Code.wp _ _ _ _ _
  refine seq ?_
  refine region ?_
  refine sv (yLdBA rfl Try.isAgg34 Try.sizeOf34 (hS.at _) rfl rfl) ?_
  refine sv (yMove rfl) ?_
  refine sv (yMove rfl) ?_
  refine scall Try.call70 (.cons rfl (.cons rfl (.cons rfl .nil))) (c_rsays (hg.ext hS.ext) hok ht) ?_
  rintro _ w ⟨rfl, hE⟩; replace hS := hS.step hE; clear hE
  refine sv (yMove rfl) ?_
  refine sv (yExt rfl rfl) ?_
  refine sv (yExt rfl rfl) ?_
  refine salloc hS Try.zeroValue38 rfl ?_; clear hS; intro b9 w hS
  refine sst hS rfl rfl Try.sizeOf38 rfl rfl rfl rfl ?_; clear hS; intro w hS
  refine sv (yAsg rfl) ?_
  refine nil ?_
  show Code.wp _ _ _ _ _
  refine seq ?_
  refine region ?_
  refine sv (yMove rfl) ?_
  refine sv (yEql rfl rfl) ?_
  refine sv (yMove rfl) ?_
  refine sg rfl rfl rfl (fun g => (yMove rfl)) (fun v21 g21 => ?_)
  refine sg rfl rfl rfl (fun g => (fa38_0 rfl)) (fun v22 g22 => ?_)
  refine sg rfl rfl rfl (fun g => (yLdB (g22.1 g) Try.isAgg3 (hS.at _) rfl)) (fun v23 g23 => ?_)
  refine sg rfl rfl rfl (fun g => (fa38_1 rfl)) (fun v24 g24 => ?_)
  refine sg rfl rfl rfl (fun g => (yLdB (g24.1 g) Try.isAgg3 (hS.at _) rfl)) (fun v25 g25 => ?_)
  refine sgc hS rfl rfl rfl Try.call63 (fun g => (.cons (g21.1 g) (.cons (g23.1 g) (.cons (g25.1 g) .nil)))) (fun g => c_in) ?_; clear hS; intro v26 w hS g26
  refine sv (yAnd rfl (fun hB => (g26.1 hB)) rfl) ?_
  refine sv (yAsg rfl) ?_
  refine nil ?_
  show Code.wp _ _ _ _ _
  refine wp_ret ?_
  exact retV (res1 rfl rfl) hS.ext
/-- barrage/barrageref01.agreed -/
theorem c_ragreed {l : List Gauge} {v : Value} {x t now : Int} {w0 : World} (hl : Sl w0 5 RGauge v l) (hok : ∀ u ∈ l, GaugeOk u) (ht : Bd t 0 200000) (h8 : l.length ≤ 8) : CV Try.prog 82 #[v, .int .i64 x, .int .i64 t, .int .i64 now] w0 (.int .i64 (cntG t now l x : Int)) := by
  obtain ⟨a, cap, rfl, hcap, hmx, hel⟩ := id hl
  refine enter Try.func82 rfl Try.ntmps82 rfl ?_
  have hS := St.start w0
  refine seq ?_
  refine region ?_
  refine sv (yAsg rfl) ?_
  refine nil ?_
  show Code.wp _ _ _ _ _
  refine seq ?_
  refine region ?_
  refine sv (yAsg rfl) ?_
  refine nil ?_
  show Code.wp _ _ _ _ _
  refine seq ?_
  refine seq ?_
  refine region ?_
  refine sv (yAsg rfl) ?_
  refine nil ?_
  show Code.wp _ _ _ _ _
  refine block ?_
  refine loop (fun f w zz => ∃ (k : Nat), f 0 = .slice a l.length cap ∧ f 1 = .int .i64 x ∧ f 2 = .int .i64 t ∧ f 3 = .int .i64 now ∧ f 9 = .int .i64 (cntG t now (l.take k) x : Int) ∧ f 10 = .int .i64 (k : Int) ∧ StX [] w0 w [] ∧ (k ≤ l.length) ∧ zz = l.length - k) _ ⟨_, rfl, 0, rfl, rfl, rfl, rfl, rfl, rfl, hS, (Nat.zero_le _), rfl⟩ ?_
  clear hS
  rintro f w _ ⟨k, h0, h1, h2, h3, h9, h10, hS, hk, rfl⟩
  refine seq ?_
  refine seq ?_
  refine region ?_
  refine sv (yMove h10) ?_
  refine sv (yMove h0) ?_
  refine sv (yLen rfl Try.underlying66) ?_
  refine sv (yLss rfl rfl) ?_
  refine nil ?_
  show Code.wp _ _ _ _ _
  refine cond rfl (fun c14 => ?_) (fun c14 => ?_)
  ·
    simp only [Bool.and_eq_true, Bool.or_eq_true, Bool.and_eq_false_iff, Bool.or_eq_false_iff, decide_eq_true_eq, decide_eq_false_iff_not, Bool.not_eq_true, Bool.not_eq_false, Bool.not_not, Bool.not_eq_eq_eq_not, Bool.not_true, Bool.not_false, Bool.false_eq_true, Bool.true_eq_false, ne_eq, Decidable.not_not, not_false_eq_true, not_true_eq_false] at c14
    obtain ⟨u, hx, hd⟩ := drop_of (l := l) (k := k) (by omega)
    obtain ⟨b, o, cs, ha, hlen, hcs, hR⟩ := hel (k) (by omega)
    obtain rfl : u = l[k] := (List.getElem?_eq_some_iff.1 hx).2.symm
    generalize l[k] = u at hx hd hR
    have hg := hR
    have hcl := cntG_le t now x (l.take k)
    have htl : (l.take k).length ≤ 8 := by simp; omega
    refine skip ?_
    show Code.wp _ _ _ _ _
    refine seq ?_
    refine block ?_
    refine seq ?_
    refine region ?_
    refine sv (yMove h0) ?_
    refine sv (yMove h10) ?_
    refine sv (yIxa rfl ha rfl Try.runUnderlying66 Try.sizeOf34 (by omega) (by omega)) ?_
    refine sv (yLdA rfl Try.isAgg34 Try.sizeOf34 (hcs.ext hS.ext) hlen) ?_
    refine sv (yMove h1) ?_
    refine sv (yMove h2) ?_
    refine sv (yMove h3) ?_
    refine scall Try.call86 (.cons rfl (.cons rfl (.cons rfl (.cons rfl .nil)))) (c_rhas (hg.ext hS.ext) (hok u (List.mem_of_getElem? hx)) ht) ?_
    rintro _ w ⟨rfl, hE⟩; replace hS := hS.step hE; clear hE
    refine nil ?_
    show Code.wp _ _ _ _ _
    refine cond rfl (fun c24 => ?_) (fun c24 => ?_)
    ·
      refine region ?_
      refine sv (yMove h9) ?_
      refine sv (yAdd rfl rfl ⟨by omega, by omega⟩) ?_
      refine sv (yAsg rfl) ?_
      refine nil ?_
      show Code.wp _ _ _ _ _
      refine region ?_
      refine sv (yMove h10) ?_
      refine sv (yAdd rfl rfl ⟨by omega, by omega⟩) ?_
      refine sv (yAsg rfl) ?_
      refine nil ?_
      exact ⟨_, _, rfl, ⟨k + 1, h0, h1, h2, h3, (by rw [cntG_take hx, if_pos c24]; exact rfl), rfl, hS, (by omega), rfl⟩, by omega⟩
    ·
      refine skip ?_
      show Code.wp _ _ _ _ _
      refine region ?_
      refine sv (yMove h10) ?_
      refine sv (yAdd rfl rfl ⟨by omega, by omega⟩) ?_
      refine sv (yAsg rfl) ?_
      refine nil ?_
      exact ⟨_, _, rfl, ⟨k + 1, h0, h1, h2, h3, (by rw [cntG_take hx, if_neg (by rw [c24]; decide)]; exact h9), rfl, hS, (by omega), rfl⟩, by omega⟩
  ·
    simp only [Bool.and_eq_true, Bool.or_eq_true, Bool.and_eq_false_iff, Bool.or_eq_false_iff, decide_eq_true_eq, decide_eq_false_iff_not, Bool.not_eq_true, Bool.not_eq_false, Bool.not_not, Bool.not_eq_eq_eq_not, Bool.not_true, Bool.not_false, Bool.false_eq_true, Bool.true_eq_false, ne_eq, Decidable.not_not, not_false_eq_true, not_true_eq_false] at c14
    obtain rfl : k = l.length := by omega
    rw [List.take_length] at h9
    refine exit ?_
    show Code.wp _ _ _ _ _
    refine seq ?_
    refine region ?_
    refine sv (yMove h9) ?_
    refine sv (yAsg rfl) ?_
    refine nil ?_
    show Code.wp _ _ _ _ _
    refine wp_ret ?_
    exact retV (res1 rfl rfl) hS.ext
set_option maxHeartbeats 1000000 in
/-- barrage/barrageref01.ends -/
theorem c_rends {l : List Gauge} {v : Value} {t now : Int} {w0 : World} (hl : Sl w0 5 RGauge v l) (hok : ∀ u ∈ l, GaugeOk u) (ht : Bd t 0 200000) (h8 : l.length ≤ 8) : CE Try.prog 81 #[v, .int .i64 t, .int .i64 now] w0 (fun v w' => St w0 w' [rowI v 3 1 (rends t now l).length ((rends t now l).flatMap Bx.encI)]) := by
  obtain ⟨a, cap, rfl, hcap, hmx, hel⟩ := id hl
  refine enter Try.func81 rfl Try.ntmps81 rfl ?_
  have hS := St.start w0
  refine seq ?_
  refine region ?_
  refine sv (yAsg rfl) ?_
  refine nil ?_
  show Code.wp _ _ _ _ _
  refine seq ?_
  refine region ?_
  refine sv (yAsg rfl) ?_
  refine nil ?_
  show Code.wp _ _ _ _ _
  refine seq ?_
  refine seq ?_
  refine region ?_
  refine sv (yAsg rfl) ?_
  refine nil ?_
  show Code.wp _ _ _ _ _
  refine block ?_
  refine loop (fun f w zz => ∃ (k : Nat) (ov : Value), f 0 = .slice a l.length cap ∧ f 1 = .int .i64 t ∧ f 2 = .int .i64 now ∧ f 7 = ov ∧ f 8 = .int .i64 (k : Int) ∧ StX [] w0 w [rowI ov 3 1 (rends t now (l.take k)).length ((rends t now (l.take k)).flatMap Bx.encI)] ∧ (k ≤ l.length) ∧ zz = l.length - k) _ ⟨_, rfl, 0, _, rfl, rfl, rfl, rfl, rfl, (hS.nilrow 3 1), (Nat.zero_le _), rfl⟩ ?_
  clear hS
  rintro f w _ ⟨k, ov, h0, h1, h2, h7, h8, hS, hk, rfl⟩
  refine seq ?_
  refine seq ?_
  refine region ?_
  refine sv (yMove h8) ?_
  refine sv (yMove h0) ?_
  refine sv (yLen rfl Try.underlying66) ?_
  refine sv (yLss rfl rfl) ?_
  refine nil ?_
  show Code.wp _ _ _ _ _
  refine cond rfl (fun c14 => ?_) (fun c14 => ?_)
  ·
    simp only [Bool.and_eq_true, Bool.or_eq_true, Bool.and_eq_false_iff, Bool.or_eq_false_iff, decide_eq_true_eq, decide_eq_false_iff_not, Bool.not_eq_true, Bool.not_eq_false, Bool.not_not, Bool.not_eq_eq_eq_not, Bool.not_true, Bool.not_false, Bool.false_eq_true, Bool.true_eq_false, ne_eq, Decidable.not_not, not_false_eq_true, not_true_eq_false] at c14
    obtain ⟨u, hx, hd⟩ := drop_of (l := l) (k := k) (by omega)
    obtain ⟨b, o, cs, ha, hlen, hcs, hR⟩ := hel (k) (by omega)
    obtain rfl : u = l[k] := (List.getElem?_eq_some_iff.1 hx).2.symm
    generalize l[k] = u at hx hd hR
    have hg := hR
    have hrl := rends_len t now (l.take k)
    have htl : (l.take k).length ≤ 8 := by simp; omega
    refine skip ?_
    show Code.wp _ _ _ _ _
    refine seq ?_
    refine block ?_
    refine seq ?_
    refine region ?_
    refine sv (yMove h0) ?_
    refine sv (yMove h8) ?_
    refine sv (yIxa rfl ha rfl Try.runUnderlying66 Try.sizeOf34 (by omega) (by omega)) ?_
    refine sv (yLdA rfl Try.isAgg34 Try.sizeOf34 (hcs.ext hS.ext) hlen) ?_
    refine sv (yMove h1) ?_
    refine sv (yMove h2) ?_
    refine scall Try.call70 (.cons rfl (.cons rfl (.cons rfl .nil))) (c_rsays (hg.ext hS.ext) (hok u (List.mem_of_getElem? hx)) ht) ?_
    rintro _ w ⟨rfl, hE⟩; replace hS := hS.step hE; clear hE
    refine sv (yMove rfl) ?_
    refine sv (yExt rfl rfl) ?_
    refine sv (yExt rfl rfl) ?_
    refine salloc hS Try.zeroValue38 rfl ?_; clear hS; intro b9 w hS
    refine sst hS rfl rfl Try.sizeOf38 rfl rfl rfl rfl ?_; clear hS; intro w hS
    refine sv (yAsg rfl) ?_
    refine nil ?_
    show Code.wp _ _ _ _ _
    refine seq ?_
    refine region ?_
    refine sv (yMove rfl) ?_
    refine sv (yEql rfl rfl) ?_
    refine nil ?_
    show Code.wp _ _ _ _ _
    refine cond rfl (fun c28 => ?_) (fun c28 => ?_)
    ·
      simp only [Bool.and_eq_true, Bool.or_eq_true, Bool.and_eq_false_iff, Bool.or_eq_false_iff, decide_eq_true_eq, decide_eq_false_iff_not, Bool.not_eq_true, Bool.not_eq_false, Bool.not_not, Bool.not_eq_eq_eq_not, Bool.not_true, Bool.not_false, Bool.false_eq_true, Bool.true_eq_false, ne_eq, Decidable.not_not, not_false_eq_true, not_true_eq_false] at c28
      refine region ?_
      refine sv (yMove h7) ?_
      refine sv (fa38_0 rfl) ?_
      refine sv (yLdB rfl Try.isAgg3 (hS.at _) rfl) ?_
      refine sv (fa38_1 rfl) ?_
      refine sv (yLdB rfl Try.isAgg3 (hS.at _) rfl) ?_
      refine sbslice hS Try.underlying44 Try.sizeOf3 rfl Try.zeroValue3 rfl (.cons rfl rfl (.cons rfl rfl .nil)) rfl ?_; clear hS; intro b34 w hS
      refine sapp (bytes := 8) (size := 1) (v := ov) (m := 2) hS rfl rfl Try.underlying44 ti3 rfl rfl rfl rfl (by decide) (blk_cells (hS.at _)) rfl rfl (by omega) (by omega) ?_; clear hS; intro v35 w hS
      refine sv (yAsg rfl) ?_
      refine nil ?_
      show Code.wp _ _ _ _ _
      refine region ?_
      refine sv (yMove h8) ?_
      refine sv (yAdd rfl rfl ⟨by omega, by omega⟩) ?_
      refine sv (yAsg rfl) ?_
      refine nil ?_
      exact ⟨_, _, rfl, ⟨k + 1, _, h0, h1, h2, rfl, rfl, (by rw [rends_take hx, if_pos c28, List.flatMap_append, List.length_append]; exact hS.sub (.cons _ (.cons _ (List.Sublist.refl _)))), (by omega), rfl⟩, by omega⟩
    ·
      simp only [Bool.and_eq_true, Bool.or_eq_true, Bool.and_eq_false_iff, Bool.or_eq_false_iff, decide_eq_true_eq, decide_eq_false_iff_not, Bool.not_eq_true, Bool.not_eq_false, Bool.not_not, Bool.not_eq_eq_eq_not, Bool.not_true, Bool.not_false, Bool.false_eq_true, Bool.true_eq_false, ne_eq, Decidable.not_not, not_false_eq_true, not_true_eq_false] at c28
      refine skip ?_
      show Code.wp _ _ _ _ _
      refine region ?_
      refine sv (yMove h8) ?_
      refine sv (yAdd rfl rfl ⟨by omega, by omega⟩) ?_
      refine sv (yAsg rfl) ?_
      refine nil ?_
      exact ⟨_, _, rfl, ⟨k + 1, _, h0, h1, h2, h7, rfl, (by rw [rends_take hx, if_neg c28, List.append_nil]; exact hS.sub (.cons _ (List.Sublist.refl _))), (by omega), rfl⟩, by omega⟩
  ·
    simp only [Bool.and_eq_true, Bool.or_eq_true, Bool.and_eq_false_iff, Bool.or_eq_false_iff, decide_eq_true_eq, decide_eq_false_iff_not, Bool.not_eq_true, Bool.not_eq_false, Bool.not_not, Bool.not_eq_eq_eq_not, Bool.not_true, Bool.not_false, Bool.false_eq_true, Bool.true_eq_false, ne_eq, Decidable.not_not, not_false_eq_true, not_true_eq_false] at c14
    obtain rfl : k = l.length := by omega
    rw [List.take_length] at hS
    refine exit ?_
    show Code.wp _ _ _ _ _
    refine seq ?_
    refine region ?_
    refine sv (yMove h7) ?_
    refine sv (yAsg rfl) ?_
    refine nil ?_
    show Code.wp _ _ _ _ _
    refine wp_ret ?_
    refine retQ (res1 rfl rfl) ?_
    exact hS
end Go.Proofs.Ytpgmehignepidaa
/- part Wk29 -/
namespace Go.Proofs.Ytpgmehignepidaa
open Go Bx
set_option maxHeartbeats 1000000 in
/-- barrage/barrageref01.gauges -/
theorem c_rgauges {l : List Gauge} {v : Value} {t now : Int} {w0 : World} (hl : Sl w0 5 RGauge v l) : CV Try.prog 80 #[v, .int .i64 t, .int .i64 now] w0 (.int .i64 (gaugesE l t now)) := by
  obtain ⟨a, cap, rfl, hcap, hmx, hel⟩ := id hl
  refine enter Try.func80 rfl Try.ntmps80 rfl ?_
  have hS := St.start w0
  refine seq ?_
  refine region ?_
  refine sv (yAsg rfl) ?_
  refine nil ?_
  show Code.wp _ _ _ _ _
  refine seq ?_
  refine seq ?_
  refine region ?_
  refine sv (yMove rfl) ?_
  refine sv (yLen rfl Try.underlying66) ?_
  refine sv (yGtr rfl rfl) ?_
  refine nil ?_
  show Code.wp _ _ _ _ _
  refine cond rfl (fun c15 => ?_) (fun c15 => ?_)
  ·
    simp only [Bool.and_eq_true, Bool.or_eq_true, Bool.and_eq_false_iff, Bool.or_eq_false_iff, decide_eq_true_eq, decide_eq_false_iff_not, Bool.not_eq_true, Bool.not_eq_false, Bool.not_not, Bool.not_eq_eq_eq_not, Bool.not_true, Bool.not_false, Bool.false_eq_true, Bool.true_eq_false, ne_eq, Decidable.not_not, not_false_eq_true, not_true_eq_false] at c15
    refine seq ?_
    refine region ?_
    refine sv (yAsg rfl) ?_
    refine nil ?_
    show Code.wp _ _ _ _ _
    have hfin : gaugesE l t now = 3 := by unfold gaugesE; rw [if_pos c15]
    refine wp_ret (thenR ?_)
    exact retV (res1 rfl (eqI hfin)) hS.ext
  ·
    simp only [Bool.and_eq_true, Bool.or_eq_true, Bool.and_eq_false_iff, Bool.or_eq_false_iff, decide_eq_true_eq, decide_eq_false_iff_not, Bool.not_eq_true, Bool.not_eq_false, Bool.not_not, Bool.not_eq_eq_eq_not, Bool.not_true, Bool.not_false, Bool.false_eq_true, Bool.true_eq_false, ne_eq, Decidable.not_not, not_false_eq_true, not_true_eq_false] at c15
    refine skip ?_
    show Code.wp _ _ _ _ _
    refine seq ?_
    refine seq ?_
    refine region ?_
    refine sv (yAsg rfl) ?_
    refine nil ?_
    show Code.wp _ _ _ _ _
    refine block ?_
    refine loop (fun f w zz => ∃ (k : Nat), f 0 = .slice a l.length cap ∧ f 1 = .int .i64 t ∧ f 2 = .int .i64 now ∧ f 7 = .int .i64 (k : Int) ∧ StX [] w0 w [] ∧ (k ≤ l.length) ∧ (gErrs l = gErrs (l.drop k)) ∧ zz = l.length - k) _ ⟨_, rfl, 0, rfl, rfl, rfl, rfl, hS, (Nat.zero_le _), (rfl), rfl⟩ ?_
    clear hS
    rintro f w _ ⟨k, h0, h1, h2, h7, hS, hk, hI, rfl⟩
    refine seq ?_
    refine seq ?_
    refine region ?_
    refine sv (yMove h7) ?_
    refine sv (yMove h0) ?_
    refine sv (yLen rfl Try.underlying66) ?_
    refine sv (yLss rfl rfl) ?_
    refine nil ?_
    show Code.wp _ _ _ _ _
    refine cond rfl (fun c19 => ?_) (fun c19 => ?_)
    ·
      simp only [Bool.and_eq_true, Bool.or_eq_true, Bool.and_eq_false_iff, Bool.or_eq_false_iff, decide_eq_true_eq, decide_eq_false_iff_not, Bool.not_eq_true, Bool.not_eq_false, Bool.not_not, Bool.not_eq_eq_eq_not, Bool.not_true, Bool.not_false, Bool.false_eq_true, Bool.true_eq_false, ne_eq, Decidable.not_not, not_false_eq_true, not_true_eq_false] at c19
      obtain ⟨u, hx, hd⟩ := drop_of (l := l) (k := k) (by omega)
      obtain ⟨b, o, cs, ha, hlen, hcs, hR⟩ := hel (k) (by omega)
      obtain rfl : u = l[k] := (List.getElem?_eq_some_iff.1 hx).2.symm
      generalize l[k] = u at hx hd hR
      have hg := hR
      refine skip ?_
      show Code.wp _ _ _ _ _
      refine seq ?_
      refine block ?_
      refine seq ?_
      refine region ?_
      refine sv (yMove h0) ?_
      refine sv (yMove h7) ?_
      refine sv (yIxa rfl ha rfl Try.runUnderlying66 Try.sizeOf34 (by omega) (by omega)) ?_
      refine sv (yLdA rfl Try.isAgg34 Try.sizeOf34 (hcs.ext hS.ext) hlen) ?_
      refine scall Try.call25 (.cons rfl .nil) (c_rCheckGauge (hg.ext hS.ext)) ?_
      rintro _ w ⟨rfl, hE⟩; replace hS := hS.step hE; clear hE
      refine sv (yMove rfl) ?_
      refine sv (yExt rfl rfl) ?_
      refine sv (yExt rfl rfl) ?_
      refine sv (yExt rfl rfl) ?_
      refine sv (yAsg rfl) ?_
      refine sv (yAsg rfl) ?_
      refine sv (yAsg rfl) ?_
      refine nil ?_
      show Code.wp _ _ _ _ _
      refine seq ?_
      refine region ?_
      refine sv (yMove rfl) ?_
      refine sv (yNeq rfl rfl) ?_
      refine nil ?_
      show Code.wp _ _ _ _ _
      refine cond rfl (fun c32 => ?_) (fun c32 => ?_)
      ·
        simp only [Bool.and_eq_true, Bool.or_eq_true, Bool.and_eq_false_iff, Bool.or_eq_false_iff, decide_eq_true_eq, decide_eq_false_iff_not, Bool.not_eq_true, Bool.not_eq_false, Bool.not_not, Bool.not_eq_eq_eq_not, Bool.not_true, Bool.not_false, Bool.false_eq_true, Bool.true_eq_false, ne_eq, Decidable.not_not, not_false_eq_true, not_true_eq_false] at c32
        refine seq ?_
        refine region ?_
        refine sv (yMove rfl) ?_
        refine sv (yAsg rfl) ?_
        refine nil ?_
        show Code.wp _ _ _ _ _
        have hfin : gaugesE l t now = (checkG u).2.2 := by unfold gaugesE; rw [if_neg c15, if_pos (by rw [gErrs_bad hd hI c32]; exact c32), gErrs_bad hd hI c32]
        refine wp_ret (blockR (thenR (thenR (blockR (thenR ?_)))))
        exact retV (res1 rfl (eqI hfin)) hS.ext
      ·
        simp only [Bool.and_eq_true, Bool.or_eq_true, Bool.and_eq_false_iff, Bool.or_eq_false_iff, decide_eq_true_eq, decide_eq_false_iff_not, Bool.not_eq_true, Bool.not_eq_false, Bool.not_not, Bool.not_eq_eq_eq_not, Bool.not_true, Bool.not_false, Bool.false_eq_true, Bool.true_eq_false, ne_eq, Decidable.not_not, not_false_eq_true, not_true_eq_false] at c32
        refine skip ?_
        show Code.wp _ _ _ _ _
        refine region ?_
        refine sv (yMove h7) ?_
        refine sv (yAdd rfl rfl ⟨by omega, by omega⟩) ?_
        refine sv (yAsg rfl) ?_
        refine nil ?_
        exact ⟨_, _, rfl, ⟨k + 1, h0, h1, h2, rfl, hS, (by omega), (gErrs_take hd hI c32), rfl⟩, by omega⟩
    ·
      simp only [Bool.and_eq_true, Bool.or_eq_true, Bool.and_eq_false_iff, Bool.or_eq_false_iff, decide_eq_true_eq, decide_eq_false_iff_not, Bool.not_eq_true, Bool.not_eq_false, Bool.not_not, Bool.not_eq_eq_eq_not, Bool.not_true, Bool.not_false, Bool.false_eq_true, Bool.true_eq_false, ne_eq, Decidable.not_not, not_false_eq_true, not_true_eq_false] at c19
      obtain rfl : k = l.length := by omega
      rw [List.drop_length] at hI
      have hI0 : gErrs l = 0 := hI
      refine exit ?_
      show Code.wp _ _ _ _ _
      refine seq ?_
      refine seq ?_
      refine region ?_
      refine sv (yAsg rfl) ?_
      refine nil ?_
      show Code.wp _ _ _ _ _
      refine block ?_
      refine loop (fun f w zz => ∃ (k : Nat), f 0 = .slice a l.length cap ∧ f 1 = .int .i64 t ∧ f 2 = .int .i64 now ∧ f 11 = .int .i64 (k : Int) ∧ StX [] w0 w [] ∧ (k ≤ l.length) ∧ ((namesG (l.take k)).Nodup) ∧ zz = l.length - k) _ ⟨_, rfl, 0, h0, h1, h2, rfl, hS, (Nat.zero_le _), (List.nodup_nil), rfl⟩ ?_
      clear hS
      rintro f w _ ⟨k, h0, h1, h2, h11, hS, hk, hN, rfl⟩
      refine seq ?_
      refine seq ?_
      refine region ?_
      refine sv (yMove h11) ?_
      refine sv (yMove h0) ?_
      refine sv (yLen rfl Try.underlying66) ?_
      refine sv (yLss rfl rfl) ?_
      refine nil ?_
      show Code.wp _ _ _ _ _
      refine cond rfl (fun c37 => ?_) (fun c37 => ?_)
      ·
        simp only [Bool.and_eq_true, Bool.or_eq_true, Bool.and_eq_false_iff, Bool.or_eq_false_iff, decide_eq_true_eq, decide_eq_false_iff_not, Bool.not_eq_true, Bool.not_eq_false, Bool.not_not, Bool.not_eq_eq_eq_not, Bool.not_true, Bool.not_false, Bool.false_eq_true, Bool.true_eq_false, ne_eq, Decidable.not_not, not_false_eq_true, not_true_eq_false] at c37
        obtain ⟨u, hx, hd⟩ := drop_of (l := l) (k := k) (by omega)
        obtain ⟨b, o, cs, ha, hlen, hcs, hR⟩ := hel (k) (by omega)
        obtain rfl : u = l[k] := (List.getElem?_eq_some_iff.1 hx).2.symm
        generalize l[k] = u at hx hd hR
        obtain ⟨dv, rv, hce, -⟩ := id hR
        subst hce
        refine skip ?_
        show Code.wp _ _ _ _ _
        refine seq ?_
        refine block ?_
        refine seq ?_
        refine region ?_
        refine sv (yAsg rfl) ?_
        refine nil ?_
        show Code.wp _ _ _ _ _
        refine block ?_
        refine loop (fun f w zz => ∃ (i : Nat), f 0 = .slice a l.length cap ∧ f 1 = .int .i64 t ∧ f 2 = .int .i64 now ∧ f 11 = .int .i64 (k : Int) ∧ f 12 = .int .i64 (i : Int) ∧ StX [] w0 w [] ∧ (i ≤ k) ∧ (∀ j y, j < i → l[j]? = some y → u.name ≠ y.name) ∧ zz = k - i) _ ⟨_, rfl, 0, h0, h1, h2, h11, rfl, hS, (Nat.zero_le _), (fun j y hj => absurd hj (Nat.not_lt_zero j)), rfl⟩ ?_
        clear hS
        rintro f w _ ⟨i, h0, h1, h2, h11, h12, hS, hi, hM, rfl⟩
        refine seq ?_
        refine seq ?_
        refine region ?_
        refine sv (yMove h12) ?_
        refine sv (yMove h11) ?_
        refine sv (yLss rfl rfl) ?_
        refine nil ?_
        show Code.wp _ _ _ _ _
        refine cond rfl (fun c42 => ?_) (fun c42 => ?_)
        ·
          simp only [Bool.and_eq_true, Bool.or_eq_true, Bool.and_eq_false_iff, Bool.or_eq_false_iff, decide_eq_true_eq, decide_eq_false_iff_not, Bool.not_eq_true, Bool.not_eq_false, Bool.not_not, Bool.not_eq_eq_eq_not, Bool.not_true, Bool.not_false, Bool.false_eq_true, Bool.true_eq_false, ne_eq, Decidable.not_not, not_false_eq_true, not_true_eq_false] at c42
          obtain ⟨y, hxq, hdq⟩ := drop_of (l := l) (k := i) (by omega)
          obtain ⟨bq, oq, csq, haq, hlenq, hcsq, hRq⟩ := hel (i) (by omega)
          obtain rfl : y = l[i] := (List.getElem?_eq_some_iff.1 hxq).2.symm
          generalize l[i] = y at hxq hdq hRq
          obtain ⟨dvq, rvq, hceq, -⟩ := id hRq
          subst hceq
          refine skip ?_
          show Code.wp _ _ _ _ _
          refine seq ?_
          refine block ?_
          refine seq ?_
          refine region_draw mixed (by kernel_rfl) hS ?_
          refine qv (fun w hS => (yMove h0)) ?_
          refine qv (fun w hS => (yMove h11)) ?_
          refine qv (fun w hS => (yIxa rfl ha rfl Try.runUnderlying66 Try.sizeOf34 (by omega) (by omega))) ?_
          refine qv (fun w hS => (fa34_0 rfl)) ?_
          refine qv (fun w hS => (yLd rfl Try.isAgg9 ((hcs.ext hS.ext).at (j := 0) rfl))) ?_
          refine qv (fun w hS => (yMove h0)) ?_
          refine qv (fun w hS => (yMove h12)) ?_
          refine qv (fun w hS => (yIxa rfl haq rfl Try.runUnderlying66 Try.sizeOf34 (by omega) (by omega))) ?_
          refine qv (fun w hS => (fa34_0 rfl)) ?_
          refine qv (fun w hS => (yLd rfl Try.isAgg9 ((hcsq.ext hS.ext).at (j := 0) rfl))) ?_
          refine qv (fun w hS => (ySEq rfl rfl)) ?_
          clear hS; refine qnil (fun w hS => ?_)
          show Code.wp _ _ _ _ _
          refine cond rfl (fun c55 => ?_) (fun c55 => ?_)
          ·
            simp only [Bool.and_eq_true, Bool.or_eq_true, Bool.and_eq_false_iff, Bool.or_eq_false_iff, decide_eq_true_eq, decide_eq_false_iff_not, Bool.not_eq_true, Bool.not_eq_false, Bool.not_not, Bool.not_eq_eq_eq_not, Bool.not_true, Bool.not_false, Bool.false_eq_true, Bool.true_eq_false, ne_eq, Decidable.not_not, not_false_eq_true, not_true_eq_false] at c55
            refine seq ?_
            refine region ?_
            refine sv (yAsg rfl) ?_
            refine nil ?_
            show Code.wp _ _ _ _ _
            have hfin : gaugesE l t now = 5 := by unfold gaugesE; rw [if_neg c15, if_neg (fun h => h hI0), if_pos (not_nodup hxq hx (by omega) c55)]
            refine wp_ret (blockR (thenR (thenR (blockR (blockR (thenR (thenR (blockR (thenR ?_)))))))))
            exact retV (res1 rfl (eqI hfin)) hS.ext
          ·
            simp only [Bool.and_eq_true, Bool.or_eq_true, Bool.and_eq_false_iff, Bool.or_eq_false_iff, decide_eq_true_eq, decide_eq_false_iff_not, Bool.not_eq_true, Bool.not_eq_false, Bool.not_not, Bool.not_eq_eq_eq_not, Bool.not_true, Bool.not_false, Bool.false_eq_true, Bool.true_eq_false, ne_eq, Decidable.not_not, not_false_eq_true, not_true_eq_false] at c55
            refine skip ?_
            show Code.wp _ _ _ _ _
            refine region ?_
            refine sv (yMove h12) ?_
            refine sv (yAdd rfl rfl ⟨by omega, by omega⟩) ?_
            refine sv (yAsg rfl) ?_
            refine nil ?_
            exact ⟨_, _, rfl, ⟨i + 1, h0, h1, h2, h11, rfl, hS, (by omega), (fun j y hj hy => by
              rcases Nat.lt_succ_iff_lt_or_eq.1 hj with h | rfl
              · exact hM j y h hy
              · rw [hxq] at hy; cases hy; exact c55), rfl⟩, by omega⟩
        ·
          simp only [Bool.and_eq_true, Bool.or_eq_true, Bool.and_eq_false_iff, Bool.or_eq_false_iff, decide_eq_true_eq, decide_eq_false_iff_not, Bool.not_eq_true, Bool.not_eq_false, Bool.not_not, Bool.not_eq_eq_eq_not, Bool.not_true, Bool.not_false, Bool.false_eq_true, Bool.true_eq_false, ne_eq, Decidable.not_not, not_false_eq_true, not_true_eq_false] at c42
          obtain rfl : k = i := by omega
          refine exit ?_
          show Code.wp _ _ _ _ _
          refine region ?_
          refine sv (yMove h11) ?_
          refine sv (yAdd rfl rfl ⟨by omega, by omega⟩) ?_
          refine sv (yAsg rfl) ?_
          refine nil ?_
          exact ⟨_, _, rfl, ⟨k + 1, h0, h1, h2, rfl, hS, (by omega), (nodup_take hx hN hM), rfl⟩, by omega⟩
      ·
        simp only [Bool.and_eq_true, Bool.or_eq_true, Bool.and_eq_false_iff, Bool.or_eq_false_iff, decide_eq_true_eq, decide_eq_false_iff_not, Bool.not_eq_true, Bool.not_eq_false, Bool.not_not, Bool.not_eq_eq_eq_not, Bool.not_true, Bool.not_false, Bool.false_eq_true, Bool.true_eq_false, ne_eq, Decidable.not_not, not_false_eq_true, not_true_eq_false] at c37
        obtain rfl : k = l.length := by omega
        rw [List.take_length] at hN
        refine exit ?_
        show Code.wp _ _ _ _ _
        refine seq ?_
        refine seq ?_
        refine region ?_
        refine sv (yMove h1) ?_
        refine scall Try.call67 (.cons rfl .nil) c_tick ?_
        rintro _ w ⟨rfl, hE⟩; replace hS := hS.step hE; clear hE
        refine sv (yNot rfl) ?_
        refine sv (yMove rfl) ?_
        refine sg rfl rfl rfl (fun g => (yMove h2)) (fun v60 g60 => ?_)
        refine sgc hS rfl rfl rfl Try.call67 (fun g => (.cons (g60.1 g) .nil)) (fun g => c_tick) ?_; clear hS; intro v61 w hS g61
        refine sg rfl rfl rfl (fun g => (yNot (g61.1 g))) (fun v62 g62 => ?_)
        refine sv (yOr rfl rfl (fun hB => (g62.1 hB))) ?_
        refine nil ?_
        show Code.wp _ _ _ _ _
        refine cond rfl (fun c63 => ?_) (fun c63 => ?_)
        ·
          have htk : ticksE [t, now] = 7 := by rw [ticks2, outB_inB, outB_inB, if_pos c63]
          refine seq ?_
          refine region ?_
          refine sv (yAsg rfl) ?_
          refine nil ?_
          show Code.wp _ _ _ _ _
          have hfin : gaugesE l t now = 7 := by unfold gaugesE; rw [if_neg c15, if_neg (fun h => h hI0), if_neg (fun h => h hN), htk]
          refine wp_ret (thenR ?_)
          exact retV (res1 rfl (eqI hfin)) hS.ext
        ·
          have htk : ticksE [t, now] = 0 := by rw [ticks2, outB_inB, outB_inB, if_neg (by rw [c63]; decide)]
          refine skip ?_
          show Code.wp _ _ _ _ _
          refine seq ?_
          refine region ?_
          refine sv (yAsg rfl) ?_
          refine nil ?_
          show Code.wp _ _ _ _ _
          have hfin : gaugesE l t now = 0 := by unfold gaugesE; rw [if_neg c15, if_neg (fun h => h hI0), if_neg (fun h => h hN), htk]
          refine wp_ret ?_
          exact retV (res1 rfl (eqI hfin)) hS.ext
end Go.Proofs.Ytpgmehignepidaa
/- part Wk30 -/
namespace Go.Proofs.Ytpgmehignepidaa
open Go Bx
set_option maxHeartbeats 2000000 in
/-- barrage/barrageref01.Sound -/
theorem c_rSound {l : List Gauge} {v : Value} {wrong t now : Int} {w0 : World} (hl : Sl w0 5 RGauge v l) : CV Try.prog 38 #[v, .int .i64 wrong, .int .i64 t, .int .i64 now] w0 (.tuple #[.agg (spanC (rSoundF l wrong t now).1).toArray, .int .i64 (rSoundF l wrong t now).2]) := by
  obtain ⟨a, cap, rfl, hcap, hmx, hel⟩ := id hl
  refine enter Try.func38 rfl Try.ntmps38 rfl ?_
  have hS := St.start w0
  refine seq ?_
  refine region ?_
  refine salloc hS Try.zeroValue38 rfl ?_; clear hS; intro b8 w hS
  refine sv (yAsg rfl) ?_
  refine nil ?_
  show Code.wp _ _ _ _ _
  refine seq ?_
  refine region ?_
  refine sv (yMove rfl) ?_
  refine sv (yMove rfl) ?_
  refine sv (yMove rfl) ?_
  refine scall Try.call80 (.cons rfl (.cons rfl (.cons rfl .nil))) (c_rgauges (hl.ext RGauge.stays hS.ext)) ?_
  rintro _ w ⟨rfl, hE⟩; replace hS := hS.step hE; clear hE
  refine sv (yAsg rfl) ?_
  refine nil ?_
  show Code.wp _ _ _ _ _
  refine seqJ (n := 86) (fun f w => f 0 = .slice a l.length cap ∧ f 1 = .int .i64 wrong ∧ f 2 = .int .i64 t ∧ f 3 = .int .i64 now ∧ f 8 = .pointer (some ⟨b8, 0, none⟩) ∧ f 10 = .int .i64 (soundE l wrong t now) ∧ StX [] w0 w [blk b8 [.int .i64 0, .int .i64 0] 38] ∧ True) ?_ ?_
  ·
    refine seq ?_
    refine region ?_
    refine sv (yMove rfl) ?_
    refine sv (yEql rfl rfl) ?_
    refine sv (yMove rfl) ?_
    refine sg rfl rfl rfl (fun g => (yMove rfl)) (fun v22 g22 => ?_)
    refine sg rfl rfl rfl (fun g => (yMove rfl)) (fun v23 g23 => ?_)
    refine sg rfl rfl rfl (fun g => (yLen (g23.1 g) Try.underlying66)) (fun v24 g24 => ?_)
    refine sg rfl rfl rfl (fun g => (ySub (g24.1 g) rfl ⟨by omega, by omega⟩)) (fun v25 g25 => ?_)
    refine sgc hS rfl rfl rfl Try.call63 (fun g => (.cons (g22.1 g) (.cons rfl (.cons (g25.1 g) .nil)))) (fun g => c_in) ?_; clear hS; intro v26 w hS g26
    refine sg rfl rfl rfl (fun g => (yNot (g26.1 g))) (fun v27 g27 => ?_)
    refine sv (yAnd rfl (fun hB => (g27.1 hB)) rfl) ?_
    refine nil ?_
    show Code.wp _ _ _ _ _
    refine cond rfl (fun c28 => ?_) (fun c28 => ?_)
    ·
      refine region ?_
      refine sv (yAsg rfl) ?_
      refine nil ?_
      exact ⟨_, rfl, rfl, rfl, rfl, rfl, rfl, (by rw [soundE_7 c28]; exact rfl), hS, trivial⟩
    ·
      refine skip ?_
      exact ⟨_, rfl, rfl, rfl, rfl, rfl, rfl, (by rw [soundE_g2 c28]; exact rfl), hS, trivial⟩
  ·
    clear hS; rintro f w ⟨h0, h1, h2, h3, h8, h10, hS, -⟩
    refine seq ?_
    refine seq ?_
    refine region ?_
    refine sv (yMove h10) ?_
    refine sv (yNeq rfl rfl) ?_
    refine nil ?_
    show Code.wp _ _ _ _ _
    refine cond rfl (fun c30 => ?_) (fun c30 => ?_)
    ·
      simp only [Bool.and_eq_true, Bool.or_eq_true, Bool.and_eq_false_iff, Bool.or_eq_false_iff, decide_eq_true_eq, decide_eq_false_iff_not, Bool.not_eq_true, Bool.not_eq_false, Bool.not_not, Bool.not_eq_eq_eq_not, Bool.not_true, Bool.not_false, Bool.false_eq_true, Bool.true_eq_false, ne_eq, Decidable.not_not, not_false_eq_true, not_true_eq_false] at c30
      have hfin := rSoundF_e c30
      refine seq ?_
      refine region ?_
      refine sv (yBuild Try.zeroValue38 rfl pl38 .nil rfl) ?_
      refine sv (yMove h10) ?_
      refine sst hS h8 rfl Try.sizeOf38 rfl rfl rfl rfl ?_; clear hS; intro w hS
      refine sv (yAsg rfl) ?_
      refine nil ?_
      show Code.wp _ _ _ _ _
      refine wp_ret (thenR ?_)
      exact retV (resV2 rfl (rc h8 Try.isAgg38 Try.sizeOf38 (hS.at _) (by rw [hfin]; rfl) rfl) (rt (eqI (by rw [hfin])))) hS.ext
    ·
      simp only [Bool.and_eq_true, Bool.or_eq_true, Bool.and_eq_false_iff, Bool.or_eq_false_iff, decide_eq_true_eq, decide_eq_false_iff_not, Bool.not_eq_true, Bool.not_eq_false, Bool.not_not, Bool.not_eq_eq_eq_not, Bool.not_true, Bool.not_false, Bool.false_eq_true, Bool.true_eq_false, ne_eq, Decidable.not_not, not_false_eq_true, not_true_eq_false] at c30
      obtain ⟨hg0, hwb⟩ := soundE_zero (fun h => h c30)
      obtain ⟨hln8, hok, hnd, htk⟩ := gaugesE_zero hg0
      obtain ⟨htb, hnb⟩ := ticks2b htk
      refine skip ?_
      show Code.wp _ _ _ _ _
      refine seq ?_
      refine region ?_
      refine salloc hS Try.zeroValue38 rfl ?_; clear hS; intro b11 w hS
      refine nil ?_
      show Code.wp _ _ _ _ _
      refine seq ?_
      refine region ?_
      refine sv (yAsg rfl) ?_
      refine nil ?_
      show Code.wp _ _ _ _ _
      refine seq ?_
      refine region ?_
      refine sv (yMove h0) ?_
      refine sv (yMove h2) ?_
      refine sv (yMove h3) ?_
      refine scall Try.call81 (.cons rfl (.cons rfl (.cons rfl .nil))) (c_rends (hl.ext RGauge.stays hS.ext) hok htb hln8) ?_
      rintro ov w hM; replace hS := hS.call1 hM; clear hM; obtain ⟨ae, ce, rfl⟩ := row_shape (hS.row ov)
      have hEl := rends_len t now l
      have hEb := rends_bd (t := t) (now := now) (l := l)
      generalize hE : rends t now l = E at hS hEl hEb ⊢
      refine sv (yAsg rfl) ?_
      refine nil ?_
      show Code.wp _ _ _ _ _
      refine seq ?_
      refine seq ?_
      refine region ?_
      refine sv (yAsg rfl) ?_
      refine nil ?_
      show Code.wp _ _ _ _ _
      refine block ?_
      refine loop (fun f w zz => ∃ (k : Nat) (o : Option Span), f 0 = .slice a l.length cap ∧ f 1 = .int .i64 wrong ∧ f 2 = .int .i64 t ∧ f 3 = .int .i64 now ∧ f 8 = .pointer (some ⟨b8, 0, none⟩) ∧ f 11 = .pointer (some ⟨b11, 0, none⟩) ∧ f 12 = .bool o.isSome ∧ f 13 = .slice ae E.length ce ∧ f 14 = .int .i64 (k : Int) ∧ StX [] w0 w [blk b11 (spanC (o.getD ⟨0, 0⟩)) 38, rowI (.slice ae E.length ce) 3 1 E.length (E.flatMap Bx.encI), blk b8 [.int .i64 0, .int .i64 0] 38] ∧ (k ≤ E.length) ∧ (foldS (okN t now l ((l.length : Int) - wrong)) (E.take k) = o) ∧ zz = E.length - k) _ ⟨_, rfl, 0, none, h0, h1, h2, h3, h8, rfl, rfl, rfl, rfl, (hS.perm (List.Perm.swap _ _ _)), (Nat.zero_le _), (rfl), rfl⟩ ?_
      clear hS
      rintro f w _ ⟨k, o, h0, h1, h2, h3, h8, h11, h12, h13, h14, hS, hk, ho, rfl⟩
      refine seq ?_
      refine seq ?_
      refine region ?_
      refine sv (yMove h14) ?_
      refine sv (yMove h13) ?_
      refine sv (yLen rfl Try.underlying44) ?_
      refine sv (yLss rfl rfl) ?_
      refine nil ?_
      show Code.wp _ _ _ _ _
      refine cond rfl (fun c40 => ?_) (fun c40 => ?_)
      ·
        simp only [Bool.and_eq_true, Bool.or_eq_true, Bool.and_eq_false_iff, Bool.or_eq_false_iff, decide_eq_true_eq, decide_eq_false_iff_not, Bool.not_eq_true, Bool.not_eq_false, Bool.not_not, Bool.not_eq_eq_eq_not, Bool.not_true, Bool.not_false, Bool.false_eq_true, Bool.true_eq_false, ne_eq, Decidable.not_not, not_false_eq_true, not_true_eq_false] at c40
        obtain ⟨x, hx, hd⟩ := drop_of (l := E) (k := k) (by omega)
        obtain ⟨ge, rfl, -⟩ := row_get (hS.row (.slice ae E.length ce)) (by omega)
        have hxb := hEb x (List.mem_of_getElem? hx)
        refine skip ?_
        show Code.wp _ _ _ _ _
        refine seq ?_
        refine block ?_
        refine seq ?_
        refine seq ?_
        refine region ?_
        refine sv (yMove h0) ?_
        refine sv (yMove h13) ?_
        refine sv (yMove h14) ?_
        refine sv (yIx0 rfl rfl Try.runUnderlying44 Try.sizeOf3 (by omega)) ?_
        refine sv (yLd rfl Try.isAgg3 ((flat_cells0 encI_len (row_at (hS.row (.slice (some ⟨ge, 0, none⟩) E.length ce)) rfl (by omega)) hx).one)) ?_
        refine sv (yMove h2) ?_
        refine sv (yMove h3) ?_
        refine scall Try.call82 (.cons rfl (.cons rfl (.cons rfl (.cons rfl .nil)))) (c_ragreed (hl.ext RGauge.stays hS.ext) hok htb hln8) ?_
        rintro _ w ⟨rfl, hE⟩; replace hS := hS.step hE; clear hE
        refine sv (yMove h0) ?_
        refine sv (yLen rfl Try.underlying66) ?_
        refine sv (yMove h1) ?_
        refine sv (ySub rfl rfl ⟨by omega, by omega⟩) ?_
        refine sv (yLss rfl rfl) ?_
        refine nil ?_
        show Code.wp _ _ _ _ _
        refine cond rfl (fun c55 => ?_) (fun c55 => ?_)
        ·
          simp only [Bool.and_eq_true, Bool.or_eq_true, Bool.and_eq_false_iff, Bool.or_eq_false_iff, decide_eq_true_eq, decide_eq_false_iff_not, Bool.not_eq_true, Bool.not_eq_false, Bool.not_not, Bool.not_eq_eq_eq_not, Bool.not_true, Bool.not_false, Bool.false_eq_true, Bool.true_eq_false, ne_eq, Decidable.not_not, not_false_eq_true, not_true_eq_false] at c55
          refine exit ?_
          show Code.wp _ _ _ _ _
          refine region ?_
          refine sv (yMove h14) ?_
          refine sv (yAdd rfl rfl ⟨by omega, by omega⟩) ?_
          refine sv (yAsg rfl) ?_
          refine nil ?_
          exact ⟨_, _, rfl, ⟨k + 1, o, h0, h1, h2, h3, h8, h11, h12, h13, rfl, hS, (by omega), (by rw [foldS_take hx, ho, stepS, if_neg (by simp [okN, c55])]), rfl⟩, by omega⟩
        ·
          simp only [Bool.and_eq_true, Bool.or_eq_true, Bool.and_eq_false_iff, Bool.or_eq_false_iff, decide_eq_true_eq, decide_eq_false_iff_not, Bool.not_eq_true, Bool.not_eq_false, Bool.not_not, Bool.not_eq_eq_eq_not, Bool.not_true, Bool.not_false, Bool.false_eq_true, Bool.true_eq_false, ne_eq, Decidable.not_not, not_false_eq_true, not_true_eq_false] at c55
          refine skip ?_
          show Code.wp _ _ _ _ _
          refine seq ?_
          refine seq ?_
          refine region ?_
          refine sv (yMove h12) ?_
          refine sv (yNot rfl) ?_
          refine nil ?_
          show Code.wp _ _ _ _ _
          refine cond rfl (fun c57 => ?_) (fun c57 => ?_)
          ·
            simp only [Bool.and_eq_true, Bool.or_eq_true, Bool.and_eq_false_iff, Bool.or_eq_false_iff, decide_eq_true_eq, decide_eq_false_iff_not, Bool.not_eq_true, Bool.not_eq_false, Bool.not_not, Bool.not_eq_eq_eq_not, Bool.not_true, Bool.not_false, Bool.false_eq_true, Bool.true_eq_false, ne_eq, Decidable.not_not, not_false_eq_true, not_true_eq_false] at c57
            obtain rfl : o = none := by cases o; rfl; simp at c57
            refine region_tail mixed 9 (by kernel_rfl) hS ?_
            refine qv (fun w hS => (yMove h13)) ?_
            refine qv (fun w hS => (yMove h14)) ?_
            refine qv (fun w hS => (yIx0 rfl rfl Try.runUnderlying44 Try.sizeOf3 (by omega))) ?_
            refine qv (fun w hS => (yLd rfl Try.isAgg3 ((flat_cells0 encI_len (row_at (hS.row (.slice (some ⟨ge, 0, none⟩) E.length ce)) rfl (by omega)) hx).one))) ?_
            refine qv (fun w hS => (yMove h13)) ?_
            refine qv (fun w hS => (yMove h14)) ?_
            refine qv (fun w hS => (yIx0 rfl rfl Try.runUnderlying44 Try.sizeOf3 (by omega))) ?_
            refine qv (fun w hS => (yLd rfl Try.isAgg3 ((flat_cells0 encI_len (row_at (hS.row (.slice (some ⟨ge, 0, none⟩) E.length ce)) rfl (by omega)) hx).one))) ?_
            refine qv (fun w hS => (yBuild Try.zeroValue38 rfl pl38 (.cons rfl rfl (.cons rfl rfl .nil)) rfl)) ?_
            clear hS; refine qtl (fun w hS => ?_)
            refine sst hS h11 rfl Try.sizeOf38 rfl rfl rfl rfl ?_; clear hS; intro w hS
            refine nil ?_
            show Code.wp _ _ _ _ _
            refine seq ?_
            refine region_tail mixed 15 (by kernel_rfl) hS ?_
            refine qv (fun w hS => (fa38_0 h11)) ?_
            refine qv (fun w hS => (yLdB rfl Try.isAgg3 (hS.at _) rfl)) ?_
            refine qv (fun w hS => (yMove h13)) ?_
            refine qv (fun w hS => (yMove h14)) ?_
            refine qv (fun w hS => (yIx0 rfl rfl Try.runUnderlying44 Try.sizeOf3 (by omega))) ?_
            refine qv (fun w hS => (yLd rfl Try.isAgg3 ((flat_cells0 encI_len (row_at (hS.row (.slice (some ⟨ge, 0, none⟩) E.length ce)) rfl (by omega)) hx).one))) ?_
            refine qv (fun w hS => (yMin rfl rfl)) ?_
            refine qv (fun w hS => (fa38_1 h11)) ?_
            refine qv (fun w hS => (yLdB rfl Try.isAgg3 (hS.at _) rfl)) ?_
            refine qv (fun w hS => (yMove h13)) ?_
            refine qv (fun w hS => (yMove h14)) ?_
            refine qv (fun w hS => (yIx0 rfl rfl Try.runUnderlying44 Try.sizeOf3 (by omega))) ?_
            refine qv (fun w hS => (yLd rfl Try.isAgg3 ((flat_cells0 encI_len (row_at (hS.row (.slice (some ⟨ge, 0, none⟩) E.length ce)) rfl (by omega)) hx).one))) ?_
            refine qv (fun w hS => (yMax rfl rfl)) ?_
            refine qv (fun w hS => (yBuild Try.zeroValue38 rfl pl38 (.cons rfl rfl (.cons rfl rfl .nil)) rfl)) ?_
            clear hS; refine qtl (fun w hS => ?_)
            refine sst hS h11 rfl Try.sizeOf38 rfl rfl rfl rfl ?_; clear hS; intro w hS
            refine nil ?_
            show Code.wp _ _ _ _ _
            refine region ?_
            refine sv (yAsg rfl) ?_
            refine nil ?_
            show Code.wp _ _ _ _ _
            refine region ?_
            refine sv (yMove h14) ?_
            refine sv (yAdd rfl rfl ⟨by omega, by omega⟩) ?_
            refine sv (yAsg rfl) ?_
            refine nil ?_
            exact ⟨_, _, rfl, ⟨k + 1, some ⟨min ((⟨x, x⟩ : Span)).lo x, max ((⟨x, x⟩ : Span)).hi x⟩, h0, h1, h2, h3, h8, h11, rfl, h13, rfl, hS, (by omega), (by rw [foldS_take hx, ho, stepS, if_pos (by simp [okN]; omega)]; rfl), rfl⟩, by omega⟩
          ·
            simp only [Bool.and_eq_true, Bool.or_eq_true, Bool.and_eq_false_iff, Bool.or_eq_false_iff, decide_eq_true_eq, decide_eq_false_iff_not, Bool.not_eq_true, Bool.not_eq_false, Bool.not_not, Bool.not_eq_eq_eq_not, Bool.not_true, Bool.not_false, Bool.false_eq_true, Bool.true_eq_false, ne_eq, Decidable.not_not, not_false_eq_true, not_true_eq_false] at c57
            obtain ⟨s, rfl⟩ : ∃ s, o = some s := by cases o; simp at c57; exact ⟨_, rfl⟩
            refine skip ?_
            show Code.wp _ _ _ _ _
            refine seq ?_
            refine region_tail mixed 15 (by kernel_rfl) hS ?_
            refine qv (fun w hS => (fa38_0 h11)) ?_
            refine qv (fun w hS => (yLdB rfl Try.isAgg3 (hS.at _) rfl)) ?_
            refine qv (fun w hS => (yMove h13)) ?_
            refine qv (fun w hS => (yMove h14)) ?_
            refine qv (fun w hS => (yIx0 rfl rfl Try.runUnderlying44 Try.sizeOf3 (by omega))) ?_
            refine qv (fun w hS => (yLd rfl Try.isAgg3 ((flat_cells0 encI_len (row_at (hS.row (.slice (some ⟨ge, 0, none⟩) E.length ce)) rfl (by omega)) hx).one))) ?_
            refine qv (fun w hS => (yMin rfl rfl)) ?_
            refine qv (fun w hS => (fa38_1 h11)) ?_
            refine qv (fun w hS => (yLdB rfl Try.isAgg3 (hS.at _) rfl)) ?_
            refine qv (fun w hS => (yMove h13)) ?_
            refine qv (fun w hS => (yMove h14)) ?_
            refine qv (fun w hS => (yIx0 rfl rfl Try.runUnderlying44 Try.sizeOf3 (by omega))) ?_
            refine qv (fun w hS => (yLd rfl Try.isAgg3 ((flat_cells0 encI_len (row_at (hS.row (.slice (some ⟨ge, 0, none⟩) E.length ce)) rfl (by omega)) hx).one))) ?_
            refine qv (fun w hS => (yMax rfl rfl)) ?_
            refine qv (fun w hS => (yBuild Try.zeroValue38 rfl pl38 (.cons rfl rfl (.cons rfl rfl .nil)) rfl)) ?_
            clear hS; refine qtl (fun w hS => ?_)
            refine sst hS h11 rfl Try.sizeOf38 rfl rfl rfl rfl ?_; clear hS; intro w hS
            refine nil ?_
            show Code.wp _ _ _ _ _
            refine region ?_
            refine sv (yAsg rfl) ?_
            refine nil ?_
            show Code.wp _ _ _ _ _
            refine region ?_
            refine sv (yMove h14) ?_
            refine sv (yAdd rfl rfl ⟨by omega, by omega⟩) ?_
            refine sv (yAsg rfl) ?_
            refine nil ?_
            exact ⟨_, _, rfl, ⟨k + 1, some ⟨min (s).lo x, max (s).hi x⟩, h0, h1, h2, h3, h8, h11, rfl, h13, rfl, hS, (by omega), (by rw [foldS_take hx, ho, stepS, if_pos (by simp [okN]; omega)]; rfl), rfl⟩, by omega⟩
      ·
        simp only [Bool.and_eq_true, Bool.or_eq_true, Bool.and_eq_false_iff, Bool.or_eq_false_iff, decide_eq_true_eq, decide_eq_false_iff_not, Bool.not_eq_true, Bool.not_eq_false, Bool.not_not, Bool.not_eq_eq_eq_not, Bool.not_true, Bool.not_false, Bool.false_eq_true, Bool.true_eq_false, ne_eq, Decidable.not_not, not_false_eq_true, not_true_eq_false] at c40
        obtain rfl : k = E.length := by omega
        rw [List.take_length] at ho
        refine exit ?_
        show Code.wp _ _ _ _ _
        refine seq ?_
        refine seq ?_
        refine region ?_
        refine sv (yMove h12) ?_
        refine sv (yNot rfl) ?_
        refine nil ?_
        show Code.wp _ _ _ _ _
        refine cond rfl (fun c83 => ?_) (fun c83 => ?_)
        ·
          simp only [Bool.and_eq_true, Bool.or_eq_true, Bool.and_eq_false_iff, Bool.or_eq_false_iff, decide_eq_true_eq, decide_eq_false_iff_not, Bool.not_eq_true, Bool.not_eq_false, Bool.not_not, Bool.not_eq_eq_eq_not, Bool.not_true, Bool.not_false, Bool.false_eq_true, Bool.true_eq_false, ne_eq, Decidable.not_not, not_false_eq_true, not_true_eq_false] at c83
          obtain rfl : o = none := by cases o; rfl; simp at c83
          have hfin : rSoundF l wrong t now = (⟨0, 0⟩, 9) := by rw [rSoundF_ok (fun h => h c30), hE, ho]; rfl
          refine seq ?_
          refine region ?_
          refine sv (yBuild Try.zeroValue38 rfl pl38 .nil rfl) ?_
          refine sst hS h8 rfl Try.sizeOf38 rfl rfl rfl rfl ?_; clear hS; intro w hS
          refine sv (yAsg rfl) ?_
          refine nil ?_
          show Code.wp _ _ _ _ _
          refine wp_ret (thenR ?_)
          exact retV (resV2 rfl (rc h8 Try.isAgg38 Try.sizeOf38 (hS.at _) (by rw [hfin]; rfl) rfl) (rt (eqI (by rw [hfin])))) hS.ext
        ·
          simp only [Bool.and_eq_true, Bool.or_eq_true, Bool.and_eq_false_iff, Bool.or_eq_false_iff, decide_eq_true_eq, decide_eq_false_iff_not, Bool.not_eq_true, Bool.not_eq_false, Bool.not_not, Bool.not_eq_eq_eq_not, Bool.not_true, Bool.not_false, Bool.false_eq_true, Bool.true_eq_false, ne_eq, Decidable.not_not, not_false_eq_true, not_true_eq_false] at c83
          obtain ⟨s, rfl⟩ : ∃ s, o = some s := by cases o; simp at c83; exact ⟨_, rfl⟩
          have hfin : rSoundF l wrong t now = (s, 0) := by rw [rSoundF_ok (fun h => h c30), hE, ho]; rfl
          refine skip ?_
          show Code.wp _ _ _ _ _
          refine seq ?_
          refine region ?_
          refine sv (yLdBA h11 Try.isAgg38 Try.sizeOf38 (hS.at _) rfl rfl) ?_
          refine sst hS h8 rfl Try.sizeOf38 rfl rfl rfl rfl ?_; clear hS; intro w hS
          refine sv (yAsg rfl) ?_
          refine nil ?_
          show Code.wp _ _ _ _ _
          refine wp_ret ?_
          exact retV (resV2 rfl (rc h8 Try.isAgg38 Try.sizeOf38 (hS.at _) (by rw [hfin]; rfl) rfl) (rt (eqI (by rw [hfin])))) hS.ext
end Go.Proofs.Ytpgmehignepidaa
/- part P20 -/
namespace Bx
open Go Go.RowKit
def cov (s : Span) (v : Int) : Bool := inB v s.lo s.hi
def cntS (SP : List Span) (v : Int) : Nat := SP.countP fun s => cov s v
def bal (v : Int) : List (Int × Int) → Int
  | [] => 0
  | e :: E => (if e.1 ≤ v then 1 - 2 * e.2 else 0) + bal v E
theorem bal_perm {v : Int} {E F : List (Int × Int)} (h : E.Perm F) : bal v E = bal v F := by
  induction h with
  | nil => rfl
  | cons x _ ih => simp only [bal, ih]
  | swap x y l => simp only [bal]; omega
  | trans _ _ h1 h2 => exact h1.trans h2
theorem bal_none {v : Int} : ∀ {E : List (Int × Int)}, (∀ e ∈ E, v < e.1) → bal v E = 0
  | [], _ => rfl
  | e :: E, h => by
    have h1 := h e (List.mem_cons_self ..)
    simp only [bal]
    rw [if_neg (by omega), bal_none (fun x hx => h x (List.mem_cons_of_mem _ hx))]
    rfl
theorem bal_ends {v : Int} : ∀ {SP : List Span}, (∀ s ∈ SP, s.lo ≤ s.hi) → bal v (SP.flatMap endsOf) = cntS SP v
  | [], _ => rfl
  | s :: SP, h => by
    have h1 := h s (List.mem_cons_self ..)
    have ih := bal_ends (v := v) (SP := SP) (fun x hx => h x (List.mem_cons_of_mem _ hx))
    unfold cntS at *
    rw [List.countP_cons, List.flatMap_cons]
    simp only [endsOf, List.cons_append, List.nil_append, bal, ih]
    by_cases hc : cov s v = true
    · rw [if_pos hc]
      have := inB_iff.1 hc
      rw [if_pos this.1, if_neg (by omega)]
      omega
    · rw [if_neg hc]
      have : ¬ (s.lo ≤ v ∧ v ≤ s.hi) := fun k => hc (inB_iff.2 k)
      by_cases h2 : s.lo ≤ v
      · rw [if_pos h2, if_pos (by omega)]; omega
      · rw [if_neg h2, if_neg (by omega)]; omega
def Asc (S : List (Int × Int)) : Prop := S.Pairwise fun x y => x.1 ≤ y.1
theorem sortE_asc (E : List (Int × Int)) : Asc (sortE E) := by
  have h := List.pairwise_mergeSort (le := fun x y => !(ltE y x)) (fun a b c h1 h2 => by
    simp only [Bool.not_eq_true'] at *
    exact ltE_ntrans c b a h2 h1) (fun a b => by
    simp only [Bool.or_eq_true, Bool.not_eq_true']
    by_cases h : ltE b a = true
    · right
      simp only [ltE, decide_eq_true_eq, decide_eq_false_iff_not] at *; omega
    · left; simpa using h) E
  refine List.Pairwise.imp ?_ h
  intro x y hxy
  simp only [ltE, Bool.not_eq_true', decide_eq_false_iff_not] at hxy
  omega
theorem sortE_perm (E : List (Int × Int)) : (sortE E).Perm E := List.mergeSort_perm _ _
/-- What the pieces of ascending ends are. -/
theorem pieces_spec : ∀ (S : List (Int × Int)) (m : Int), Asc S →
    (∀ p ∈ piecesL S m, p.1.lo ≤ p.1.hi ∧ (∃ e ∈ S, e.1 = p.1.lo) ∧ (∀ v, p.1.lo ≤ v → v ≤ p.1.hi → p.2 = m + bal v S) ∧ ∀ e ∈ S, e.1 ≤ p.1.lo ∨ p.1.hi < e.1) ∧
    ((piecesL S m).Pairwise fun p q => p.1.hi < q.1.lo) ∧
    (∀ v, (∃ e ∈ S, e.1 ≤ v) → (∃ e ∈ S, v < e.1) → ∃ p ∈ piecesL S m, p.1.lo ≤ v ∧ v ≤ p.1.hi)
  | [], m, _ => by
    refine ⟨(fun p hp => by cases hp), List.Pairwise.nil, ?_⟩
    rintro v ⟨e, he, _⟩
    cases he
  | [x], m, _ => by
    refine ⟨(fun p hp => by cases hp), List.Pairwise.nil, ?_⟩
    rintro v ⟨e, he, h1⟩ ⟨e2, he2, h2⟩
    obtain rfl := List.mem_singleton.1 he
    obtain rfl := List.mem_singleton.1 he2
    omega
  | x :: y :: r, m, hA => by
    have hx := (List.pairwise_cons.1 hA).1
    have hA' : Asc (y :: r) := (List.pairwise_cons.1 hA).2
    have hxy : x.1 ≤ y.1 := hx y (List.mem_cons_self ..)
    have hy : ∀ e ∈ y :: r, y.1 ≤ e.1 := by
      intro e he
      rcases List.mem_cons.1 he with rfl | he
      · exact Int.le_refl _
      · exact (List.pairwise_cons.1 hA').1 e he
    obtain ⟨i1, i2, i3⟩ := pieces_spec (y :: r) (m + (1 - 2 * x.2)) hA'
    have t1 : ∀ p ∈ piecesL (y :: r) (m + (1 - 2 * x.2)), p.1.lo ≤ p.1.hi ∧ (∃ e ∈ x :: y :: r, e.1 = p.1.lo) ∧ (∀ v, p.1.lo ≤ v → v ≤ p.1.hi → p.2 = m + bal v (x :: y :: r)) ∧ ∀ e ∈ x :: y :: r, e.1 ≤ p.1.lo ∨ p.1.hi < e.1 := by
      intro p hp
      obtain ⟨a1, ⟨e, he, a2⟩, a3, a4⟩ := i1 p hp
      have hlo := hy e he
      refine ⟨a1, ⟨e, List.mem_cons_of_mem _ he, a2⟩, fun v h1 h2 => ?_, fun e' he' => ?_⟩
      · rw [a3 v h1 h2]
        simp only [bal]
        rw [if_pos (show x.1 ≤ v by omega)]
        omega
      · rcases List.mem_cons.1 he' with rfl | he'
        · left; omega
        · exact a4 e' he'
    by_cases hlt : x.1 < y.1
    · have e : piecesL (x :: y :: r) m = (⟨x.1, y.1 - 1⟩, m + (1 - 2 * x.2)) :: piecesL (y :: r) (m + (1 - 2 * x.2)) := by simp only [piecesL]; rw [if_pos hlt]
      rw [e]
      refine ⟨?_, ?_, ?_⟩
      · intro p hp
        rcases List.mem_cons.1 hp with rfl | hp
        · refine ⟨by show x.1 ≤ y.1 - 1; omega, ⟨x, List.mem_cons_self .., rfl⟩, fun v h1 h2 => ?_, fun e' he' => ?_⟩
          · have h1 : x.1 ≤ v := h1
            have h2 : v ≤ y.1 - 1 := h2
            have hb := bal_none (v := v) (E := y :: r) (fun e he => by have := hy e he; omega)
            show m + (1 - 2 * x.2) = m + bal v (x :: y :: r)
            rw [show bal v (x :: y :: r) = (if x.1 ≤ v then 1 - 2 * x.2 else 0) + bal v (y :: r) from rfl, hb, if_pos h1]
            omega
          · rcases List.mem_cons.1 he' with rfl | he'
            · left; exact Int.le_refl _
            · right; have := hy e' he'; show y.1 - 1 < e'.1; omega
        · exact t1 p hp
      · refine List.pairwise_cons.2 ⟨fun q hq => ?_, i2⟩
        obtain ⟨_, ⟨e, he, a2⟩, _⟩ := i1 q hq
        have := hy e he
        show y.1 - 1 < q.1.lo
        omega
      · rintro v ⟨e1, he1, h1⟩ ⟨e2, he2, h2⟩
        by_cases hv : v < y.1
        · refine ⟨_, List.mem_cons_self .., ?_, ?_⟩
          · rcases List.mem_cons.1 he1 with rfl | he1
            · exact h1
            · have := hy e1 he1; omega
          · show v ≤ y.1 - 1; omega
        · have he2' : e2 ∈ y :: r := by
            rcases List.mem_cons.1 he2 with rfl | h
            · omega
            · exact h
          obtain ⟨p, hp, h3⟩ := i3 v ⟨y, List.mem_cons_self .., by omega⟩ ⟨e2, he2', h2⟩
          exact ⟨p, List.mem_cons_of_mem _ hp, h3⟩
    · have e : piecesL (x :: y :: r) m = piecesL (y :: r) (m + (1 - 2 * x.2)) := by simp only [piecesL]; rw [if_neg hlt]
      rw [e]
      refine ⟨t1, i2, ?_⟩
      rintro v ⟨e1, he1, h1⟩ ⟨e2, he2, h2⟩
      have hxe : x.1 = y.1 := by omega
      refine i3 v ?_ ?_
      · rcases List.mem_cons.1 he1 with rfl | he1
        · exact ⟨y, List.mem_cons_self .., by omega⟩
        · exact ⟨e1, he1, h1⟩
      · rcases List.mem_cons.1 he2 with rfl | he2
        · exact ⟨y, List.mem_cons_self .., by omega⟩
        · exact ⟨e2, he2, h2⟩
/-- The pieces of spans: how many cover a level. -/
abbrev piecesS (SP : List Span) : PL := piecesL (sortE (SP.flatMap endsOf)) 0
theorem mem_ends {SP : List Span} {e : Int × Int} : e ∈ sortE (SP.flatMap endsOf) ↔ ∃ s ∈ SP, e = (s.lo, 0) ∨ e = (s.hi + 1, 1) := by
  rw [(sortE_perm _).mem_iff, List.mem_flatMap]
  simp [endsOf]
theorem piecesS_spec {SP : List Span} (hs : ∀ s ∈ SP, s.lo ≤ s.hi) :
    (∀ p ∈ piecesS SP, p.1.lo ≤ p.1.hi ∧ (∀ v, p.1.lo ≤ v → v ≤ p.1.hi → p.2 = cntS SP v) ∧ ∀ s ∈ SP, (s.lo ≤ p.1.lo ∨ p.1.hi < s.lo) ∧ (s.hi < p.1.lo ∨ p.1.hi ≤ s.hi)) ∧
    ((piecesS SP).Pairwise fun p q => p.1.hi < q.1.lo) ∧
    (∀ v, 0 < cntS SP v → ∃ p ∈ piecesS SP, p.1.lo ≤ v ∧ v ≤ p.1.hi) := by
  obtain ⟨h1, h2, h3⟩ := pieces_spec (sortE (SP.flatMap endsOf)) 0 (sortE_asc _)
  refine ⟨fun p hp => ?_, h2, fun v hv => ?_⟩
  · obtain ⟨a1, _, a3, a4⟩ := h1 p hp
    refine ⟨a1, fun v k1 k2 => ?_, fun s hsm => ?_⟩
    · rw [a3 v k1 k2, bal_perm (sortE_perm _), bal_ends hs]; omega
    · have e1 := a4 (s.lo, 0) (mem_ends.2 ⟨s, hsm, .inl rfl⟩)
      have e2 := a4 (s.hi + 1, 1) (mem_ends.2 ⟨s, hsm, .inr rfl⟩)
      simp only [] at e1 e2
      exact ⟨e1, by omega⟩
  · obtain ⟨s, hsm, hc⟩ := List.countP_pos_iff.1 hv
    have := inB_iff.1 hc
    exact h3 v ⟨(s.lo, 0), mem_ends.2 ⟨s, hsm, .inl rfl⟩, this.1⟩ ⟨(s.hi + 1, 1), mem_ends.2 ⟨s, hsm, .inr rfl⟩, by show v < s.hi + 1; omega⟩
end Bx
/- part P21 -/
namespace Bx
open Go Go.RowKit
theorem snocInd2 {α : Type} {p : List α → Prop} (h0 : p []) (h1 : ∀ l x, p l → p (l ++ [x])) (l : List α) : p l := by
  have : ∀ l : List α, p l.reverse := by
    intro l
    induction l with
    | nil => exact h0
    | cons x l ih => rw [List.reverse_cons]; exact h1 _ _ ih
  have := this l.reverse
  rwa [List.reverse_reverse] at this
theorem foldS_snoc {ok : Int → Bool} (l : List Int) (x : Int) : foldS ok (l ++ [x]) = stepS ok (foldS ok l) x := by unfold foldS; rw [List.foldl_append]; rfl
theorem foldS_spec (ok : Int → Bool) (E : List Int) : (foldS ok E = none ∧ ∀ x ∈ E, ok x = false) ∨ ∃ s, foldS ok E = some s ∧ (s.lo ∈ E ∧ ok s.lo = true) ∧ (s.hi ∈ E ∧ ok s.hi = true) ∧ ∀ x ∈ E, ok x = true → s.lo ≤ x ∧ x ≤ s.hi := by
  refine snocInd2 (p := fun E => (foldS ok E = none ∧ ∀ x ∈ E, ok x = false) ∨ ∃ s, foldS ok E = some s ∧ (s.lo ∈ E ∧ ok s.lo = true) ∧ (s.hi ∈ E ∧ ok s.hi = true) ∧ ∀ x ∈ E, ok x = true → s.lo ≤ x ∧ x ≤ s.hi) ?_ ?_ E
  · exact .inl ⟨rfl, fun x hx => by cases hx⟩
  · intro l x ih
    rw [foldS_snoc]
    by_cases hx : ok x = true
    · right
      rw [stepS, if_pos hx]
      rcases ih with ⟨h1, h2⟩ | ⟨s, h1, ⟨h2, h3⟩, ⟨h4, h5⟩, h6⟩
      · rw [h1]
        refine ⟨_, rfl, ?_⟩
        simp only [Option.getD_none, Int.min_self, Int.max_self]
        refine ⟨⟨by simp, hx⟩, ⟨by simp, hx⟩, fun y hy hyo => ?_⟩
        rcases List.mem_append.1 hy with hy | hy
        · rw [h2 y hy] at hyo; cases hyo
        · obtain rfl := List.mem_singleton.1 hy
          exact ⟨Int.le_refl _, Int.le_refl _⟩
      · rw [h1]
        refine ⟨_, rfl, ?_⟩
        simp only [Option.getD_some]
        refine ⟨?_, ?_, fun y hy hyo => ?_⟩
        · rcases Int.le_total s.lo x with h | h
          · rw [Int.min_eq_left h]; exact ⟨List.mem_append_left _ h2, h3⟩
          · rw [Int.min_eq_right h]; exact ⟨by simp, hx⟩
        · rcases Int.le_total s.hi x with h | h
          · rw [Int.max_eq_right h]; exact ⟨by simp, hx⟩
          · rw [Int.max_eq_left h]; exact ⟨List.mem_append_left _ h4, h5⟩
        · rcases List.mem_append.1 hy with hy | hy
          · have := h6 y hy hyo
            omega
          · obtain rfl := List.mem_singleton.1 hy
            omega
    · rw [stepS, if_neg hx]
      rcases ih with ⟨h1, h2⟩ | ⟨s, h1, ⟨h2, h3⟩, ⟨h4, h5⟩, h6⟩
      · refine .inl ⟨h1, fun y hy => ?_⟩
        rcases List.mem_append.1 hy with hy | hy
        · exact h2 y hy
        · obtain rfl := List.mem_singleton.1 hy; simpa using hx
      · refine .inr ⟨s, h1, ⟨List.mem_append_left _ h2, h3⟩, ⟨List.mem_append_left _ h4, h5⟩, fun y hy hyo => ?_⟩
        rcases List.mem_append.1 hy with hy | hy
        · exact h6 y hy hyo
        · obtain rfl := List.mem_singleton.1 hy; exact absurd hyo hx
/-- Where more cover than beside, one begins. -/
theorem begins {SP : List Span} {v : Int} (h : cntS SP (v - 1) < cntS SP v) : ∃ s ∈ SP, s.lo = v := by
  refine Classical.byContradiction fun hn => ?_
  have : cntS SP v ≤ cntS SP (v - 1) := List.countP_mono_left (fun s hs hc => by
    have h1 := inB_iff.1 hc
    have h2 : s.lo ≠ v := fun e => hn ⟨s, hs, e⟩
    exact inB_iff.2 ⟨by omega, by omega⟩)
  omega
theorem finishes {SP : List Span} {v : Int} (h : cntS SP (v + 1) < cntS SP v) : ∃ s ∈ SP, s.hi = v := by
  refine Classical.byContradiction fun hn => ?_
  have : cntS SP v ≤ cntS SP (v + 1) := List.countP_mono_left (fun s hs hc => by
    have h1 := inB_iff.1 hc
    have h2 : s.hi ≠ v := fun e => hn ⟨s, hs, e⟩
    exact inB_iff.2 ⟨by omega, by omega⟩)
  omega
abbrev endsI (SP : List Span) : List Int := SP.flatMap fun s => [s.lo, s.hi]
theorem mem_endsI {SP : List Span} {x : Int} : x ∈ endsI SP ↔ ∃ s ∈ SP, x = s.lo ∨ x = s.hi := by simp [endsI, List.mem_flatMap]
theorem asc_bounds {F : PL} (hp : F.Pairwise fun p q => p.1.hi < q.1.lo) (hl : ∀ p ∈ F, p.1.lo ≤ p.1.hi) : ∀ q ∈ F, (F.getD 0 (⟨0, 0⟩, 0)).1.lo ≤ q.1.lo ∧ q.1.hi ≤ (F.getD (F.length - 1) (⟨0, 0⟩, 0)).1.hi := by
  intro q hq
  obtain ⟨i, hi, rfl⟩ := List.getElem_of_mem hq
  rw [List.pairwise_iff_getElem] at hp
  have h0 : F.getD 0 (⟨0, 0⟩, 0) = F[0] := by simp [show 0 < F.length by omega]
  have h1 : F.getD (F.length - 1) (⟨0, 0⟩, 0) = F[F.length - 1] := by simp [show F.length - 1 < F.length by omega]
  rw [h0, h1]
  have l0 := hl F[0] (List.getElem_mem _)
  have l1 := hl F[F.length - 1] (List.getElem_mem _)
  have li := hl F[i] (List.getElem_mem _)
  constructor
  · by_cases h : i = 0
    · subst h; exact Int.le_refl _
    · have := hp 0 i (by omega) hi (by omega); omega
  · by_cases h : i = F.length - 1
    · subst h; exact Int.le_refl _
    · have := hp i (F.length - 1) hi (by omega) (by omega); omega
theorem sound_spec {SP : List Span} (hs : ∀ s ∈ SP, s.lo ≤ s.hi) {need : Int} (hn : 1 ≤ need) :
    (enough need (piecesS SP) = [] ∧ ∀ v, (cntS SP v : Int) < need) ∨ (enough need (piecesS SP) ≠ [] ∧ ∃ a b, soundP (enough need (piecesS SP)) = (⟨a, b⟩, 0) ∧ need ≤ cntS SP a ∧ need ≤ cntS SP b ∧ ∀ v, need ≤ cntS SP v → a ≤ v ∧ v ≤ b) := by
  obtain ⟨h1, h2, h3⟩ := piecesS_spec hs
  have hmem : ∀ p, p ∈ enough need (piecesS SP) ↔ p ∈ piecesS SP ∧ need ≤ p.2 := by
    intro p
    unfold enough
    rw [List.mem_filter]
    simp
  have hfind : ∀ v, need ≤ cntS SP v → ∃ p ∈ enough need (piecesS SP), p.1.lo ≤ v ∧ v ≤ p.1.hi := by
    intro v hv
    obtain ⟨p, hp, k1, k2⟩ := h3 v (by omega)
    exact ⟨p, (hmem p).2 ⟨hp, by rw [(h1 p hp).2.1 v k1 k2]; exact hv⟩, k1, k2⟩
  by_cases hE : enough need (piecesS SP) = []
  · refine .inl ⟨hE, fun v => ?_⟩
    refine Classical.byContradiction fun k => ?_
    obtain ⟨p, hp, _⟩ := hfind v (by omega)
    rw [hE] at hp; cases hp
  · refine .inr ⟨hE, _, _, soundP_some hE, ?_⟩
    have hpos := List.length_pos_iff.2 hE
    have hp2 : (enough need (piecesS SP)).Pairwise fun p q => p.1.hi < q.1.lo := List.Pairwise.filter _ h2
    have hlo : ∀ p ∈ enough need (piecesS SP), p.1.lo ≤ p.1.hi := fun p hp => (h1 p ((hmem p).1 hp).1).1
    have hb := asc_bounds hp2 hlo
    have m0 : (enough need (piecesS SP)).getD 0 (⟨0, 0⟩, 0) ∈ enough need (piecesS SP) := List.mem_of_getElem? (getD_some hpos)
    have m1 : (enough need (piecesS SP)).getD ((enough need (piecesS SP)).length - 1) (⟨0, 0⟩, 0) ∈ enough need (piecesS SP) := List.mem_of_getElem? (getD_some (by omega))
    generalize (enough need (piecesS SP)).getD 0 (⟨0, 0⟩, 0) = p0 at *
    generalize (enough need (piecesS SP)).getD ((enough need (piecesS SP)).length - 1) (⟨0, 0⟩, 0) = p1 at *
    obtain ⟨k0, k0'⟩ := (hmem p0).1 m0
    obtain ⟨k1, k1'⟩ := (hmem p1).1 m1
    refine ⟨?_, ?_, fun v hv => ?_⟩
    · rw [← (h1 p0 k0).2.1 p0.1.lo (Int.le_refl _) (h1 p0 k0).1]; exact k0'
    · rw [← (h1 p1 k1).2.1 p1.1.hi (h1 p1 k1).1 (Int.le_refl _)]; exact k1'
    · obtain ⟨q, hq, q1, q2⟩ := hfind v hv
      have := hb q hq
      omega
theorem sound_eq {SP : List Span} (hs : ∀ s ∈ SP, s.lo ≤ s.hi) {need : Int} (hn : 1 ≤ need) {ok : Int → Bool} (hok : ∀ v, ok v = true ↔ need ≤ cntS SP v) : soundP (enough need (piecesS SP)) = rSoundO (foldS ok (endsI SP)) := by
  rcases sound_spec hs hn with ⟨h1, h2⟩ | ⟨h1, a, b, h2, h3, h4, h5⟩
  · rcases foldS_spec ok (endsI SP) with ⟨k1, _⟩ | ⟨s, _, ⟨_, k2⟩, _⟩
    · rw [h1, k1]; rfl
    · have := (hok _).1 k2
      have := h2 s.lo
      omega
  · have ha : a ∈ endsI SP := by
      obtain ⟨s, hsm, rfl⟩ := begins (SP := SP) (v := a) (by
        refine Classical.byContradiction fun k => ?_
        have := (h5 (a - 1) (by omega)).1
        omega)
      exact mem_endsI.2 ⟨s, hsm, .inl rfl⟩
    have hb : b ∈ endsI SP := by
      obtain ⟨s, hsm, rfl⟩ := finishes (SP := SP) (v := b) (by
        refine Classical.byContradiction fun k => ?_
        have := (h5 (b + 1) (by omega)).2
        omega)
      exact mem_endsI.2 ⟨s, hsm, .inr rfl⟩
    rcases foldS_spec ok (endsI SP) with ⟨_, k2⟩ | ⟨s, k1, ⟨k2, k3⟩, ⟨k4, k5⟩, k6⟩
    · have := k2 a ha
      rw [(hok a).2 h3] at this; cases this
    · have e1 := k6 a ha ((hok a).2 h3)
      have e2 := k6 b hb ((hok b).2 h4)
      have e3 := h5 s.lo ((hok _).1 k3)
      have e4 := h5 s.hi ((hok _).1 k5)
      rw [h2, k1]
      show ((⟨a, b⟩ : Span), (0 : Int)) = (s, 0)
      rw [show a = s.lo by omega, show b = s.hi by omega]
/-! ### the spans that gauges say -/
def spansG (t now : Int) (l : List Gauge) : List Span := l.flatMap fun u => if (saysG u t now).2 = 0 then [(saysG u t now).1] else []
theorem spk_spans (t now : Int) : ∀ (l : List Gauge) (i : Int), (spkF t now l i).map (·.2) = spansG t now l
  | [], _ => rfl
  | u :: l, i => by
    have ih := spk_spans t now l (i + 1)
    unfold spansG at *
    rw [List.flatMap_cons, ← ih]
    simp only [spkF]
    split <;> simp
theorem ends_spans (t now : Int) (l : List Gauge) : endsF (spk t now l) = (spansG t now l).flatMap endsOf := by
  rw [← spk_spans t now l 0, endsF, List.flatMap_map]
theorem piecesF_S (t now : Int) (l : List Gauge) : piecesF t now l = piecesS (spansG t now l) := by unfold piecesF; rw [ends_spans]
theorem rends_spans (t now : Int) (l : List Gauge) : rends t now l = endsI (spansG t now l) := by
  unfold rends endsI spansG
  rw [List.flatMap_assoc]
  congr 1
  funext u
  split <;> simp
theorem cnt_spans (t now v : Int) (l : List Gauge) : cntG t now l v = cntS (spansG t now l) v := by
  induction l with
  | nil => rfl
  | cons u l ih =>
    unfold cntG cntS spansG at *
    rw [List.flatMap_cons, List.countP_append, List.countP_cons, ih]
    by_cases h : (saysG u t now).2 = 0
    · rw [if_pos h]
      simp only [List.countP_cons, List.countP_nil, hasG, h, decide_true, Bool.true_and, cov]
      omega
    · rw [if_neg h]
      simp [hasG, h]
theorem spans_ok {t now : Int} {l : List Gauge} : ∀ s ∈ spansG t now l, s.lo ≤ s.hi := by
  intro s hs
  rw [← spk_spans t now l 0] at hs
  obtain ⟨x, hx, rfl⟩ := List.mem_map.1 hs
  exact (spkF_mem hx).2.1
theorem sound_law (l : List Gauge) (wrong t now : Int) : soundF l wrong t now = rSoundF l wrong t now := by
  by_cases h : soundE l wrong t now = 0
  · obtain ⟨_, hw⟩ := soundE_zero (fun k => k h)
    rw [soundF_ok h, rSoundF_ok (fun k => k h), piecesF_S, rends_spans]
    refine sound_eq spans_ok (by omega) (fun v => ?_)
    rw [← cnt_spans]
    simp [okN]
  · rw [soundF_e rfl h, rSoundF_e h]
end Bx
/- part P22 -/
namespace Bx
open Go Go.RowKit
section
variable {κ : Type} [DecidableEq κ]
theorem getM_setM (m : List (κ × Value)) (k a : κ) (v : Value) : getM (setM m k v) a = if a = k then some v else getM m a := by
  induction m with
  | nil => simp [setM, getM]
  | cons p m ih =>
    obtain ⟨b, x⟩ := p
    simp only [setM]
    by_cases h : k = b
    · subst h
      rw [if_pos rfl]
      simp only [getM]
      by_cases ha : a = k
      · simp [ha]
      · simp [ha]
    · rw [if_neg h]
      simp only [getM, ih]
      by_cases ha : a = b
      · subst ha; rw [if_pos rfl, if_neg (fun e => h e.symm), if_pos rfl]
      · rw [if_neg ha, if_neg ha]
end
def spkM (xs : List (Int × Span)) : List (Int × Value) := xs.foldl (fun m x => setM m x.1 (.agg (spanC x.2).toArray)) []
theorem spkM_snoc (xs : List (Int × Span)) (x : Int × Span) : spkM (xs ++ [x]) = setM (spkM xs) x.1 (.agg (spanC x.2).toArray) := by unfold spkM; rw [List.foldl_append]; rfl
theorem spkM_none {a : Int} (xs : List (Int × Span)) : (∀ x ∈ xs, x.1 ≠ a) → getM (spkM xs) a = none := by
  refine snocInd2 (p := fun xs => (∀ x ∈ xs, x.1 ≠ a) → getM (spkM xs) a = none) (fun _ => rfl) (fun l x ih h => ?_) xs
  rw [spkM_snoc, getM_setM, if_neg (fun e => h x (by simp) e.symm)]
  exact ih (fun y hy => h y (List.mem_append_left _ hy))
def saysO (t now : Int) (u : Gauge) : Option Span := if (saysG u t now).2 = 0 then some (saysG u t now).1 else none
theorem spk_snoc (t now : Int) (l : List Gauge) (u : Gauge) : spk t now (l ++ [u]) = spk t now l ++ (if (saysG u t now).2 = 0 then [((l.length : Int), (saysG u t now).1)] else []) := by
  rw [spk, spkF_app]; simp only [spkF, Int.zero_add]
theorem spkM_get {t now : Int} (l : List Gauge) : ∀ {k : Nat} {u : Gauge}, l[k]? = some u → getM (spkM (spk t now l)) (k : Int) = (saysO t now u).map fun s => .agg (spanC s).toArray := by
  refine snocInd2 (p := fun l => ∀ {k : Nat} {u : Gauge}, l[k]? = some u → getM (spkM (spk t now l)) (k : Int) = (saysO t now u).map fun s => .agg (spanC s).toArray) (fun h => by simp at h) (fun l x ih => ?_) l
  intro k u h
  have hlt := (List.getElem?_eq_some_iff.1 h).1
  rw [spk_snoc]
  by_cases hk : k < l.length
  · rw [List.getElem?_append_left hk] at h
    split
    · rw [spkM_snoc, getM_setM, if_neg (by simp only []; omega)]
      exact ih h
    · rw [List.append_nil]; exact ih h
  · have hkl : k = l.length := by simp at hlt; omega
    subst hkl
    obtain rfl : x = u := by simpa using h
    unfold saysO
    split
    · rw [spkM_snoc, getM_setM, if_pos rfl]; rfl
    · rw [List.append_nil]
      exact spkM_none _ (fun y hy => by have := spkF_mem hy; omega)
def manyF (ps : PL) : Int := ps.foldl (fun m p => max m p.2) 0
theorem manyF_take {ps : PL} {k : Nat} {p : Span × Int} (h : ps[k]? = some p) : manyF (ps.take (k + 1)) = max (manyF (ps.take k)) p.2 := by
  unfold manyF; rw [take_snoc h, List.foldl_append]; rfl
def isF (M : Int) (ps : PL) (s : Span) : Bool := ps.any fun p => (decide (p.2 = M) && decide (s.lo ≤ p.1.lo)) && decide (p.1.hi ≤ s.hi)
def sideG (t now M : Int) (ps : PL) (u : Gauge) : Bool := (saysO t now u).isSome && isF M ps ((saysO t now u).getD ⟨0, 0⟩)
/-- The places of those that do not. -/
def outI (p : Gauge → Bool) : List Gauge → Int → List Int
  | [], _ => []
  | u :: l, i => if p u = true then outI p l (i + 1) else i :: outI p l (i + 1)
theorem outI_app (p : Gauge → Bool) : ∀ (a b : List Gauge) (i : Int), outI p (a ++ b) i = outI p a i ++ outI p b (i + a.length)
  | [], b, i => by simp [outI]
  | u :: a, b, i => by
    rw [List.cons_append]
    simp only [outI, outI_app p a b (i + 1), List.length_cons]
    rw [show i + 1 + (a.length : Int) = i + ((a.length + 1 : Nat) : Int) by omega]
    split <;> simp
theorem outI_take {p : Gauge → Bool} {l : List Gauge} {k : Nat} {u : Gauge} (h : l[k]? = some u) : outI p (l.take (k + 1)) 0 = outI p (l.take k) 0 ++ (if p u = true then [] else [(k : Int)]) := by
  have hk : k < l.length := (List.getElem?_eq_some_iff.1 h).1
  rw [take_snoc h, outI_app, show (l.take k).length = k by simp; omega]
  simp only [outI, Int.zero_add]
theorem outI_len (p : Gauge → Bool) : ∀ (l : List Gauge) (i : Int), (outI p l i).length ≤ l.length
  | [], _ => Nat.le_refl _
  | u :: l, i => by
    have := outI_len p l (i + 1)
    simp only [outI]
    split
    · simp only [List.length_cons]; omega
    · simp only [List.length_cons]; omega
theorem outI_bd {p : Gauge → Bool} : ∀ {l : List Gauge} {i : Int}, ∀ x ∈ outI p l i, i ≤ x ∧ x < i + l.length
  | [], _, x, h => by cases h
  | u :: l, i, x, h => by
    simp only [outI] at h
    simp only [List.length_cons]
    split at h
    · have := outI_bd x h; omega
    · rcases List.mem_cons.1 h with rfl | h
      · omega
      · have := outI_bd x h; omega
theorem outI_congr {p q : Gauge → Bool} {l : List Gauge} {i : Int} (h : ∀ u ∈ l, p u = q u) : outI p l i = outI q l i := by
  induction l generalizing i with
  | nil => rfl
  | cons u l ih =>
    simp only [outI, h u (List.mem_cons_self ..), ih (fun x hx => h x (List.mem_cons_of_mem _ hx))]
def agreeF (l : List Gauge) (t now : Int) : Int × List Int × Int := if gaugesE l t now ≠ 0 then (0, [], gaugesE l t now) else (manyF (piecesF t now l), outI (sideG t now (manyF (piecesF t now l)) (piecesF t now l)) l 0, 0)
def rmanyF (t now : Int) (l : List Gauge) (E : List Int) : Int := E.foldl (fun m x => max m (cntG t now l x : Int)) 0
theorem rmanyF_take {t now : Int} {l : List Gauge} {E : List Int} {k : Nat} {x : Int} (h : E[k]? = some x) : rmanyF t now l (E.take (k + 1)) = max (rmanyF t now l (E.take k)) (cntG t now l x : Int) := by
  unfold rmanyF; rw [take_snoc h, List.foldl_append]; rfl
def rsideG (t now M : Int) (l : List Gauge) (E : List Int) (u : Gauge) : Bool := E.any fun x => decide ((cntG t now l x : Int) = M) && hasG t now u x
def rAgreeF (l : List Gauge) (t now : Int) : Int × List Int × Int := if gaugesE l t now ≠ 0 then (0, [], gaugesE l t now) else (rmanyF t now l (rends t now l), outI (rsideG t now (rmanyF t now l (rends t now l)) l (rends t now l)) l 0, 0)
theorem foldMax {α : Type} (f : α → Int) : ∀ (l : List α) (m : Int), m ≤ l.foldl (fun m x => max m (f x)) m ∧ (∀ x ∈ l, f x ≤ l.foldl (fun m x => max m (f x)) m) ∧ (l.foldl (fun m x => max m (f x)) m = m ∨ ∃ x ∈ l, f x = l.foldl (fun m x => max m (f x)) m)
  | [], m => ⟨Int.le_refl _, (fun x hx => by cases hx), .inl rfl⟩
  | y :: l, m => by
    obtain ⟨h1, h2, h3⟩ := foldMax f l (max m (f y))
    rw [List.foldl_cons]
    refine ⟨by omega, fun x hx => ?_, ?_⟩
    · rcases List.mem_cons.1 hx with rfl | hx
      · omega
      · exact h2 x hx
    · rcases h3 with h3 | ⟨x, hx, h3⟩
      · rcases Int.le_total m (f y) with h | h
        · exact .inr ⟨y, List.mem_cons_self .., by rw [h3, Int.max_eq_right h]⟩
        · left; rw [h3, Int.max_eq_left h]
      · exact .inr ⟨x, List.mem_cons_of_mem _ hx, h3⟩
theorem maxLo {v : Int} : ∀ (SP : List Span), (∃ s ∈ SP, cov s v = true) → ∃ s0 ∈ SP, cov s0 v = true ∧ ∀ s ∈ SP, cov s v = true → s.lo ≤ s0.lo
  | [], ⟨s, hs, _⟩ => by cases hs
  | s :: SP, h => by
    by_cases hx : ∃ s ∈ SP, cov s v = true
    · obtain ⟨s0, h0, h1, h2⟩ := maxLo SP hx
      by_cases hc : cov s v = true ∧ s0.lo < s.lo
      · refine ⟨s, List.mem_cons_self .., hc.1, fun x hx hxc => ?_⟩
        rcases List.mem_cons.1 hx with rfl | hx
        · exact Int.le_refl _
        · have := h2 x hx hxc; omega
      · refine ⟨s0, List.mem_cons_of_mem _ h0, h1, fun x hx hxc => ?_⟩
        rcases List.mem_cons.1 hx with rfl | hx
        · exact Int.not_lt.1 (fun k => hc ⟨hxc, k⟩)
        · exact h2 x hx hxc
    · obtain ⟨s1, hs1, hc⟩ := h
      rcases List.mem_cons.1 hs1 with rfl | hs1
      · refine ⟨s1, List.mem_cons_self .., hc, fun x hxm hxc => ?_⟩
        rcases List.mem_cons.1 hxm with rfl | hxm
        · exact Int.le_refl _
        · exact absurd ⟨x, hxm, hxc⟩ hx
      · exact absurd ⟨s1, hs1, hc⟩ hx
theorem top_lo {SP : List Span} {v : Int} (h : 0 < cntS SP v) : ∃ x ∈ endsI SP, x ≤ v ∧ cntS SP v ≤ cntS SP x ∧ ∀ s ∈ SP, cov s v = true → s.lo ≤ x := by
  obtain ⟨s, hs, hc⟩ := List.countP_pos_iff.1 h
  obtain ⟨s0, h0, h1, h2⟩ := maxLo SP ⟨s, hs, hc⟩
  have k0 := inB_iff.1 h1
  refine ⟨s0.lo, mem_endsI.2 ⟨s0, h0, .inl rfl⟩, k0.1, List.countP_mono_left (fun x hx hxc => ?_), h2⟩
  have k1 := inB_iff.1 hxc
  have := h2 x hx hxc
  exact inB_iff.2 ⟨this, by omega⟩
/-- The most that cover a level, both ways. -/
theorem many_eq {SP : List Span} (hs : ∀ s ∈ SP, s.lo ≤ s.hi) : manyF (piecesS SP) = (endsI SP).foldl (fun m x => max m (cntS SP x : Int)) 0 ∧ ∀ v, (cntS SP v : Int) ≤ manyF (piecesS SP) := by
  obtain ⟨h1, h2, h3⟩ := piecesS_spec hs
  obtain ⟨a1, a2, a3⟩ := foldMax (fun p : Span × Int => p.2) (piecesS SP) 0
  obtain ⟨b1, b2, b3⟩ := foldMax (fun x : Int => (cntS SP x : Int)) (endsI SP) 0
  have e : (piecesS SP).foldl (fun m x => max m x.2) 0 = manyF (piecesS SP) := rfl
  rw [e] at a1 a2 a3
  generalize manyF (piecesS SP) = M at *
  generalize (endsI SP).foldl (fun m x => max m (cntS SP x : Int)) 0 = N at *
  have u1 : ∀ v, (cntS SP v : Int) ≤ M := by
    intro v
    by_cases hv : 0 < cntS SP v
    · obtain ⟨p, hp, k1, k2⟩ := h3 v hv
      rw [← (h1 p hp).2.1 v k1 k2]; exact a2 p hp
    · omega
  have u2 : ∀ v, (cntS SP v : Int) ≤ N := by
    intro v
    by_cases hv : 0 < cntS SP v
    · obtain ⟨x, hx, _, k2, _⟩ := top_lo hv
      have := b2 x hx
      omega
    · omega
  refine ⟨?_, u1⟩
  have l1 : M ≤ N := by
    rcases a3 with h | ⟨p, hp, h⟩
    · omega
    · rw [← h, (h1 p hp).2.1 p.1.lo (Int.le_refl _) (h1 p hp).1]; exact u2 _
  have l2 : N ≤ M := by
    rcases b3 with h | ⟨x, hx, h⟩
    · omega
    · rw [← h]; exact u1 _
  omega
theorem side_eq {SP : List Span} (hs : ∀ s ∈ SP, s.lo ≤ s.hi) {s : Span} (hsm : s ∈ SP) : isF (manyF (piecesS SP)) (piecesS SP) s = (endsI SP).any fun x => decide ((cntS SP x : Int) = manyF (piecesS SP)) && inB x s.lo s.hi := by
  obtain ⟨h1, h2, h3⟩ := piecesS_spec hs
  obtain ⟨_, hu⟩ := many_eq hs
  have hpos : 0 < cntS SP s.lo := List.countP_pos_iff.2 ⟨s, hsm, inB_iff.2 ⟨Int.le_refl _, hs s hsm⟩⟩
  have hM := hu s.lo
  rw [Bool.eq_iff_iff, isF, List.any_eq_true, List.any_eq_true]
  simp only [Bool.and_eq_true, decide_eq_true_eq]
  constructor
  · rintro ⟨p, hp, ⟨k1, k2⟩, k3⟩
    have hc := (h1 p hp).2.1 p.1.hi (h1 p hp).1 (Int.le_refl _)
    have hp1 := (h1 p hp).1
    obtain ⟨x, hx, x1, x2, x3⟩ := top_lo (SP := SP) (v := p.1.hi) (by omega)
    have x4 := x3 s hsm (inB_iff.2 ⟨by omega, k3⟩)
    have := hu x
    exact ⟨x, hx, by omega, inB_iff.2 ⟨x4, by omega⟩⟩
  · rintro ⟨x, hx, k1, k2⟩
    have k2 := inB_iff.1 k2
    obtain ⟨p, hp, q1, q2⟩ := h3 x (by omega)
    obtain ⟨r1, r2⟩ := (h1 p hp).2.2 s hsm
    exact ⟨p, hp, ⟨by rw [(h1 p hp).2.1 x q1 q2]; exact k1, by omega⟩, by omega⟩
theorem agree_law (l : List Gauge) (t now : Int) : agreeF l t now = rAgreeF l t now := by
  unfold agreeF rAgreeF
  by_cases h : gaugesE l t now ≠ 0
  · rw [if_pos h, if_pos h]
  · rw [if_neg h, if_neg h]
    have hm : manyF (piecesF t now l) = rmanyF t now l (rends t now l) := by
      unfold rmanyF
      rw [piecesF_S, rends_spans, (many_eq spans_ok).1]
      simp only [cnt_spans]
    rw [← hm]
    refine Prod.ext rfl (Prod.ext (outI_congr (fun u hu => ?_)) rfl)
    unfold sideG rsideG saysO hasG
    by_cases hs : (saysG u t now).2 = 0
    · have hmem : (saysG u t now).1 ∈ spansG t now l := List.mem_flatMap.2 ⟨u, hu, by rw [if_pos hs]; simp⟩
      rw [if_pos hs, piecesF_S, rends_spans]
      simp only [Option.isSome_some, Option.getD_some, Bool.true_and, hs, decide_true]
      rw [side_eq spans_ok hmem]
      simp only [cnt_spans]
    · rw [if_neg hs]
      simp [hs]
end Bx
/- part Wk31 -/
namespace Go.Proofs.Ytpgmehignepidaa
open Go Bx
/-- barrage/tide.Agree closure 1 -/
theorem c_Agree1 {x : Span × Int} {b b2 : Nat} {T T2 : TypeId} {M : Int} {s : Span} {w0 : World} (hb : w0.heap[b]? = some (.cells [.int .i64 M].toArray T (0, 0))) (h2 : w0.heap[b2]? = some (.cells (spanC s).toArray T2 (0, 0))) : CV Try.prog 85 #[.agg (pieceC x).toArray, .pointer (some ⟨b, 0, none⟩), .pointer (some ⟨b2, 0, none⟩)] w0 (.bool ((decide (x.2 = M) && decide (s.lo ≤ x.1.lo)) && decide (x.1.hi ≤ s.hi))) := by
  refine enter Try.func85 rfl Try.ntmps85 rfl ?_
  have hS := St.start w0
  refine seq ?_
  refine region ?_
  refine sbox hS rfl rfl ?_; clear hS; intro b3 w hS
  refine sv (yAsg rfl) ?_
  refine nil ?_
  show Code.wp _ _ _ _ _
  refine seq ?_
  refine region ?_
  refine sv (fa113_1 rfl) ?_
  refine sv (yLdB rfl Try.isAgg3 (hS.at _) rfl) ?_
  refine sv (yLdB rfl Try.isAgg3 (hS.ext.get hb) rfl) ?_
  refine sv (yEql rfl rfl) ?_
  refine sv (yMove rfl) ?_
  refine sg rfl rfl rfl (fun g => (fa38_0 rfl)) (fun v10 g10 => ?_)
  refine sg rfl rfl rfl (fun g => (yLdB (g10.1 g) Try.isAgg3 (hS.ext.get h2) rfl)) (fun v11 g11 => ?_)
  refine sg rfl rfl rfl (fun g => (fa113_0 rfl)) (fun v12 g12 => ?_)
  refine sg rfl rfl rfl (fun g => (fa38_0 (g12.1 g))) (fun v13 g13 => ?_)
  refine sg rfl rfl rfl (fun g => (yLdB (g13.1 g) Try.isAgg3 (hS.at _) rfl)) (fun v14 g14 => ?_)
  refine sg rfl rfl rfl (fun g => (yLeq (g11.1 g) (g14.1 g))) (fun v15 g15 => ?_)
  refine sv (yAnd rfl (fun hB => (g15.1 hB)) rfl) ?_
  refine sv (yMove rfl) ?_
  refine sg rfl rfl rfl (fun g => (fa113_0 rfl)) (fun v18 g18 => ?_)
  refine sg rfl rfl rfl (fun g => (fa38_1 (g18.1 g))) (fun v19 g19 => ?_)
  refine sg rfl rfl rfl (fun g => (yLdB (g19.1 g) Try.isAgg3 (hS.at _) rfl)) (fun v20 g20 => ?_)
  refine sg rfl rfl rfl (fun g => (fa38_1 rfl)) (fun v21 g21 => ?_)
  refine sg rfl rfl rfl (fun g => (yLdB (g21.1 g) Try.isAgg3 (hS.ext.get h2) rfl)) (fun v22 g22 => ?_)
  refine sg rfl rfl rfl (fun g => (yLeq (g20.1 g) (g22.1 g))) (fun v23 g23 => ?_)
  refine sv (yAnd rfl (fun hB => (g23.1 hB)) rfl) ?_
  refine sv (yAsg rfl) ?_
  refine nil ?_
  show Code.wp _ _ _ _ _
  refine wp_ret ?_
  exact retV (res1 rfl rfl) hS.ext
set_option maxHeartbeats 4000000 in
/-- barrage/tide.Agree -/
theorem c_Agree {l : List Gauge} {v : Value} {t now : Int} {w0 : World} (hl : Sl w0 5 RGauge v l) (ht : I64 t) (hn : I64 now) : CE Try.prog 39 #[v, .int .i64 t, .int .i64 now] w0 (fun u w' => ∃ ov, u = .tuple #[.int .i64 (agreeF l t now).1, ov, .int .i64 (agreeF l t now).2.2] ∧ St w0 w' [rowI ov 3 1 (agreeF l t now).2.1.length ((agreeF l t now).2.1.flatMap Bx.encI)]) := by
  obtain ⟨a, cap, rfl, hcap, hmx, hel⟩ := id hl
  refine enterX Try.func39 rfl Try.ntmps39 rfl ?_
  have hS := St.start w0
  refine seqX ?_
  refine regionX rfl ?_
  refine salloc hS Try.zeroValue3 rfl ?_; clear hS; intro b6 w hS
  refine sv (yAsg rfl) ?_
  refine sv (yAsg rfl) ?_
  refine nil ?_
  show Code.wpIn _ _ _ _ _ _ _
  refine seqX ?_
  refine seqX ?_
  refine regionX rfl ?_
  refine sv (yMove rfl) ?_
  refine sv (yMove rfl) ?_
  refine sv (yMove rfl) ?_
  refine scall Try.call76 (.cons rfl (.cons rfl (.cons rfl .nil))) (c_gauges (hl.ext RGauge.stays hS.ext) ht hn) ?_
  rintro _ w ⟨rfl, hE⟩; replace hS := hS.step hE; clear hE
  refine sv (yAsg rfl) ?_
  refine nil ?_
  show Code.wpIn _ _ _ _ _ _ _
  refine seqX ?_
  refine regionX rfl ?_
  refine sv (yMove rfl) ?_
  refine sv (yNeq rfl rfl) ?_
  refine nil ?_
  show Code.wpIn _ _ _ _ _ _ _
  refine condX rfl (fun c23 => ?_) (fun c23 => ?_)
  ·
    simp only [Bool.and_eq_true, Bool.or_eq_true, Bool.and_eq_false_iff, Bool.or_eq_false_iff, decide_eq_true_eq, decide_eq_false_iff_not, Bool.not_eq_true, Bool.not_eq_false, Bool.not_not, Bool.not_eq_eq_eq_not, Bool.not_true, Bool.not_false, Bool.false_eq_true, Bool.true_eq_false, ne_eq, Decidable.not_not, not_false_eq_true, not_true_eq_false] at c23
    have hfin : agreeF l t now = (0, [], gaugesE l t now) := by unfold agreeF; rw [if_pos c23]
    refine seqX ?_
    refine regionX rfl ?_
    refine sv (yMove rfl) ?_
    refine sst hS rfl rfl Try.sizeOf3 rfl rfl rfl rfl ?_; clear hS; intro w hS
    refine sv (yAsg rfl) ?_
    refine sv (yAsg rfl) ?_
    refine nil ?_
    show Code.wpIn _ _ _ _ _ _ _
    refine wpIn_ret (thenR ?_)
    refine leafX (resV3 rfl (rc1 rfl Try.isAgg3 (hS.at _) rfl) (rt rfl) (rt rfl)) ?_
    rw [hfin]
    exact ⟨.slice none 0 0, rfl, (hS.nilrow 3 1).sub (.cons_cons _ (List.nil_sublist _))⟩
  ·
    simp only [Bool.and_eq_true, Bool.or_eq_true, Bool.and_eq_false_iff, Bool.or_eq_false_iff, decide_eq_true_eq, decide_eq_false_iff_not, Bool.not_eq_true, Bool.not_eq_false, Bool.not_not, Bool.not_eq_eq_eq_not, Bool.not_true, Bool.not_false, Bool.false_eq_true, Bool.true_eq_false, ne_eq, Decidable.not_not, not_false_eq_true, not_true_eq_false] at c23
    have hg0 : gaugesE l t now = 0 := c23
    obtain ⟨hln8, hok, hnd, htk⟩ := gaugesE_zero hg0
    obtain ⟨htb, hnb⟩ := ticks2b htk
    refine skipX ?_
    show Code.wpIn _ _ _ _ _ _ _
    refine seqX ?_
    refine regionX rfl ?_
    refine sv (yMove rfl) ?_
    refine sv (yMove rfl) ?_
    refine sv (yMove rfl) ?_
    refine scall Try.call78 (.cons rfl (.cons rfl (.cons rfl .nil))) (c_pieces (hl.ext RGauge.stays hS.ext) hok htb (by omega)) ?_
    rintro pv w hM; replace hS := hS.call1 hM; clear hM; obtain ⟨ap, cp, rfl⟩ := row_shape (hS.row pv)
    have hpl := piecesF_len t now l
    generalize hPS : piecesF t now l = PS at hS hpl ⊢
    refine sv (yAsg rfl) ?_
    refine nil ?_
    show Code.wpIn _ _ _ _ _ _ _
    refine seqX ?_
    refine seqX ?_
    refine regionX rfl ?_
    refine sv (yMove rfl) ?_
    refine sv (yLen rfl Try.underlying110) ?_
    refine sv (yMove rfl) ?_
    refine nil ?_
    show Code.wpIn _ _ _ _ _ _ _
    refine blockX ?_
    refine loopX (fun f w zz => ∃ (k : Nat), f 0 = .slice a l.length cap ∧ f 1 = .int .i64 t ∧ f 2 = .int .i64 now ∧ f 6 = .pointer (some ⟨b6, 0, none⟩) ∧ f 7 = .slice none 0 0 ∧ f 9 = .slice ap PS.length cp ∧ f 29 = .slice ap PS.length cp ∧ f 30 = .int .i64 (PS.length : Int) ∧ f 31 = .int .i64 (k : Int) ∧ StX [] w0 w [rowI (.slice ap PS.length cp) 113 3 PS.length (PS.flatMap pieceC), blk b6 [.int .i64 (manyF (PS.take k))] 3] ∧ (k ≤ PS.length) ∧ zz = PS.length - k) _ ⟨_, rfl, 0, rfl, rfl, rfl, rfl, rfl, rfl, rfl, rfl, rfl, hS, (Nat.zero_le _), rfl⟩ ?_
    clear hS
    rintro f w _ ⟨k, h0, h1, h2, h6, h7, h9, h29, h30, h31, hS, hk, rfl⟩
    refine seqX ?_
    refine regionX rfl ?_
    refine sv (yLss h31 h30) ?_
    refine nil ?_
    show Code.wpIn _ _ _ _ _ _ _
    refine seqX ?_
    refine condX rfl (fun c32 => ?_) (fun c32 => ?_)
    ·
      simp only [Bool.and_eq_true, Bool.or_eq_true, Bool.and_eq_false_iff, Bool.or_eq_false_iff, decide_eq_true_eq, decide_eq_false_iff_not, Bool.not_eq_true, Bool.not_eq_false, Bool.not_not, Bool.not_eq_eq_eq_not, Bool.not_true, Bool.not_false, Bool.false_eq_true, Bool.true_eq_false, ne_eq, Decidable.not_not, not_false_eq_true, not_true_eq_false] at c32
      obtain ⟨x, hx, hd⟩ := drop_of (l := PS) (k := k) (by omega)
      obtain ⟨gp, rfl, -⟩ := row_get (hS.row (.slice ap PS.length cp)) (by omega)
      refine skipX ?_
      show Code.wpIn _ _ _ _ _ _ _
      refine seqX ?_
      refine blockX ?_
      refine seqX ?_
      refine regionX rfl ?_
      refine sv (yIx0 h29 h31 Try.runUnderlying110 Try.sizeOf113 (by omega)) ?_
      refine sv (yLdA rfl Try.isAgg113 Try.sizeOf113 (flat_cells0 pieceC_len (row_at (hS.row (.slice (some ⟨gp, 0, none⟩) PS.length cp)) rfl (by omega)) hx) rfl) ?_
      refine salloc hS Try.zeroValue113 rfl ?_; clear hS; intro b11 w hS
      refine sst hS rfl rfl Try.sizeOf113 rfl rfl rfl rfl ?_; clear hS; intro w hS
      refine nil ?_
      show Code.wpIn _ _ _ _ _ _ _
      refine regionX rfl ?_
      refine sv (yLdB h6 Try.isAgg3 (hS.at _) rfl) ?_
      refine sv (fa113_1 rfl) ?_
      refine sv (yLdB rfl Try.isAgg3 (hS.at _) rfl) ?_
      refine sv (yMax rfl rfl) ?_
      refine sst hS h6 rfl Try.sizeOf3 rfl rfl rfl rfl ?_; clear hS; intro w hS
      refine nil ?_
      show Code.wpIn _ _ _ _ _ _ _
      refine regionX rfl ?_
      refine sv (yAdd h31 rfl ⟨by omega, by omega⟩) ?_
      refine sv (yMove rfl) ?_
      refine nil ?_
      exact ⟨_, _, rfl, ⟨k + 1, h0, h1, h2, h6, h7, h9, h29, h30, rfl, (by rw [manyF_take hx]; exact hS.sub (.cons _ (List.Sublist.refl _))), (by omega), rfl⟩, by omega⟩
    ·
      simp only [Bool.and_eq_true, Bool.or_eq_true, Bool.and_eq_false_iff, Bool.or_eq_false_iff, decide_eq_true_eq, decide_eq_false_iff_not, Bool.not_eq_true, Bool.not_eq_false, Bool.not_not, Bool.not_eq_eq_eq_not, Bool.not_true, Bool.not_false, Bool.false_eq_true, Bool.true_eq_false, ne_eq, Decidable.not_not, not_false_eq_true, not_true_eq_false] at c32
      obtain rfl : k = PS.length := by omega
      rw [List.take_length] at hS
      generalize hMM : manyF PS = M at hS
      refine exitX ?_
      show Code.wpIn _ _ _ _ _ _ _
      refine seqX ?_
      refine regionX rfl ?_
      refine smkmap (Value.int .i64) hS ?_; clear hS; intro b40 w hS
      refine salloc hS Try.zeroValue117 rfl ?_; clear hS; intro b12 w hS
      refine sst hS rfl rfl Try.sizeOf117 rfl rfl rfl rfl ?_; clear hS; intro w hS
      refine nil ?_
      show Code.wpIn _ _ _ _ _ _ _
      refine seqX ?_
      refine seqX ?_
      refine regionX rfl ?_
      refine sv (yMove h0) ?_
      refine sv (yMove h1) ?_
      refine sv (yMove h2) ?_
      refine scall Try.call83 (.cons rfl (.cons rfl (.cons rfl .nil))) c_speakers ?_
      rintro _ w ⟨p1, p2, p3, rfl, hM⟩; replace hS := hS.call hM; clear hM
      refine nil ?_
      show Code.wpIn _ _ _ _ _ _ _
      refine blockX ?_
      refine rangeX (R := [blk p3 [.int .i64 now] 3, blk p2 [.int .i64 t] 3, blk p1 [.slice a l.length cap] 66]) (L0 := [blk b12 [.map (some b40)] 117, mapI b40 (Value.int .i64) (spkM ([])), rowI (.slice ap PS.length cp) 113 3 PS.length (PS.flatMap pieceC), blk b6 [.int .i64 M] 3]) (ps := [45, 46]) rfl Try.call109 hS (it_speakers hl hok htb) (fun cc pre L => cc = none ∧ L = [blk b12 [.map (some b40)] 117, mapI b40 (Value.int .i64) (spkM (pre)), rowI (.slice ap PS.length cp) 113 3 PS.length (PS.flatMap pieceC), blk b6 [.int .i64 M] 3]) ⟨rfl, rfl⟩ (fun _ _ => rfl) ?_ ?_ ?_
      ·
        clear hS
        intro yl pre x w L M' hpre hcb hS
        obtain ⟨-, rfl⟩ := hcb
        replace hS : StX [] w0 w (blk b12 [.map (some b40)] 117 :: mapI b40 (Value.int .i64) (spkM (pre)) :: rowI (.slice ap PS.length cp) 113 3 PS.length (PS.flatMap pieceC) :: blk b6 [.int .i64 M] 3 :: M') := hS
        refine seqX ?_
        refine regionX rfl ?_
        refine sv (yAsg rfl) ?_
        refine nil ?_
        show Code.wpIn _ _ _ _ _ _ _
        refine regionX rfl ?_
        refine salloc hS Try.zeroValue38 rfl ?_; clear hS; intro b14 w hS
        refine sst hS rfl rfl Try.sizeOf38 rfl rfl rfl rfl ?_; clear hS; intro w hS
        refine nil ?_
        refine ⟨_, [blk b14 (spanC x.2) 38, blk b12 [.map (some b40)] 117, mapI b40 (Value.int .i64) (spkM (pre)), rowI (.slice ap PS.length cp) 113 3 PS.length (PS.flatMap pieceC), blk b6 [.int .i64 M] 3], rfl, hS, ?_⟩
        clear hS M'; intro M' w hS; replace hS : StX [] w0 w (blk b14 (spanC x.2) 38 :: blk b12 [.map (some b40)] 117 :: mapI b40 (Value.int .i64) (spkM (pre)) :: rowI (.slice ap PS.length cp) 113 3 PS.length (PS.flatMap pieceC) :: blk b6 [.int .i64 M] 3 :: M') := hS
        refine blockX ?_
        refine regionX rfl ?_
        refine sv (yLdB rfl Try.isAgg117 (hS.at _) rfl) ?_
        refine sv (yMove rfl) ?_
        refine sv (yLdBA rfl Try.isAgg38 Try.sizeOf38 (hS.at _) rfl rfl) ?_
        refine smapset (Value.int .i64) hS rfl rfl rfl Try.runUnderlying117 (keyInt Try.underlying3) ?_; clear hS; intro w hS
        refine nil ?_
        replace hS : StX [] w0 w (blk b14 (spanC x.2) 38 :: blk b12 [.map (some b40)] 117 :: mapI b40 (Value.int .i64) (setM (spkM pre) x.1 (.agg (spanC x.2).toArray)) :: rowI (.slice ap PS.length cp) 113 3 PS.length (PS.flatMap pieceC) :: blk b6 [.int .i64 M] 3 :: M') := hS
        rw [← spkM_snoc] at hS
        exact ⟨_, ⟨rfl, rfl⟩, (hS.sub (.cons _ (List.Sublist.refl _)))⟩
      ·
        clear hS
        intro D w L hcb hS
        obtain ⟨-, rfl⟩ := hcb
        replace hS : StX [] w0 w [obj D (.deferred (some [])), blk b12 [.map (some b40)] 117, mapI b40 (Value.int .i64) (spkM (spk t now l)), rowI (.slice ap PS.length cp) 113 3 PS.length (PS.flatMap pieceC), blk b6 [.int .i64 M] 3] := hS
        show Code.wpIn _ _ _ _ _ _ _
        refine seqX ?_
        refine seqX ?_
        refine regionX rfl ?_
        refine sv (yMove h0) ?_
        refine sv (yLen rfl Try.underlying66) ?_
        refine sv (yMove rfl) ?_
        refine nil ?_
        show Code.wpIn _ _ _ _ _ _ _
        refine blockX ?_
        refine loopX (fun f w zz => ∃ (k : Nat) (ov : Value), f 6 = .pointer (some ⟨b6, 0, none⟩) ∧ f 7 = ov ∧ f 9 = .slice ap PS.length cp ∧ f 12 = .pointer (some ⟨b12, 0, none⟩) ∧ f 51 = .int .i64 (l.length : Int) ∧ f 52 = .int .i64 (k : Int) ∧ StX [] w0 w [rowI ov 3 1 (outI (sideG t now M PS) (l.take k) 0).length ((outI (sideG t now M PS) (l.take k) 0).flatMap Bx.encI), obj D (.deferred (some [])), blk b12 [.map (some b40)] 117, mapI b40 (Value.int .i64) (spkM (spk t now l)), rowI (.slice ap PS.length cp) 113 3 PS.length (PS.flatMap pieceC), blk b6 [.int .i64 M] 3] ∧ (k ≤ l.length) ∧ zz = l.length - k) _ ⟨_, rfl, 0, _, h6, h7, h9, rfl, rfl, rfl, (hS.nilrow 3 1), (Nat.zero_le _), rfl⟩ ?_
        clear hS
        rintro f w _ ⟨k, ov, h6, h7, h9, h12, h51, h52, hS, hk, rfl⟩
        refine seqX ?_
        refine regionX rfl ?_
        refine sv (yLss h52 h51) ?_
        refine nil ?_
        show Code.wpIn _ _ _ _ _ _ _
        refine seqX ?_
        refine condX rfl (fun c53 => ?_) (fun c53 => ?_)
        ·
          simp only [Bool.and_eq_true, Bool.or_eq_true, Bool.and_eq_false_iff, Bool.or_eq_false_iff, decide_eq_true_eq, decide_eq_false_iff_not, Bool.not_eq_true, Bool.not_eq_false, Bool.not_not, Bool.not_eq_eq_eq_not, Bool.not_true, Bool.not_false, Bool.false_eq_true, Bool.true_eq_false, ne_eq, Decidable.not_not, not_false_eq_true, not_true_eq_false] at c53
          obtain ⟨u, hx, hd⟩ := drop_of (l := l) (k := k) (by omega)
          have hrl := outI_len (sideG t now M PS) (l.take k) 0
          have htl : (l.take k).length ≤ 8 := by simp; omega
          have hgm := spkM_get (t := t) (now := now) l hx
          have hgs : (getM (spkM (spk t now l)) (k : Int)).isSome = (saysO t now u).isSome := by rw [hgm, Option.isSome_map]
          refine skipX ?_
          show Code.wpIn _ _ _ _ _ _ _
          refine seqX ?_
          refine blockX ?_
          refine seqX ?_
          refine regionX rfl ?_
          refine sv (yMove h52) ?_
          refine sv (yAsg rfl) ?_
          refine nil ?_
          show Code.wpIn _ _ _ _ _ _ _
          refine seqX ?_
          refine regionX rfl ?_
          refine sv (yLdB h12 Try.isAgg117 (hS.at _) rfl) ?_
          refine sv (yMove rfl) ?_
          refine sv (yLookOk (Value.int .i64) rfl rfl Try.runUnderlying117 (keyInt Try.underlying3) Try.zeroValue38 (hS.is _) (show _ = Value.agg (spanC ((saysO t now u).getD ⟨0, 0⟩)).toArray by rw [hgm]; cases saysO t now u <;> rfl)) ?_
          refine sv (yMove rfl) ?_
          refine sv (yExt rfl rfl) ?_
          refine sv (yExt rfl rfl) ?_
          refine salloc hS Try.zeroValue38 rfl ?_; clear hS; intro b16 w hS
          refine sst hS rfl rfl Try.sizeOf38 rfl rfl rfl rfl ?_; clear hS; intro w hS
          refine sv (yAsg rfl) ?_
          refine nil ?_
          show Code.wpIn _ _ _ _ _ _ _
          refine seqX ?_
          refine regionX rfl ?_
          refine sv (yMove rfl) ?_
          refine sv (yMove rfl) ?_
          refine sg rfl rfl rfl (fun g => (yMove h9)) (fun v63 g63 => ?_)
          refine sg rfl rfl rfl (fun g => (yFn (.cons h6 (.cons rfl .nil)))) (fun v64 g64 => ?_)
          refine sgc hS rfl rfl rfl Try.call84 (fun g => (.cons (g63.1 g) (.cons (g64.1 g) .nil))) (fun g => (c_ContainsFuncP (l := PS) (p := fun x => (decide (x.2 = M) && decide (((saysO t now u).getD ⟨0, 0⟩).lo ≤ x.1.lo)) && decide (x.1.hi ≤ ((saysO t now u).getD ⟨0, 0⟩).hi)) (cl := [.pointer (some ⟨b6, 0, none⟩), .pointer (some ⟨b16, 0, none⟩)]) (row_sl flat3 (hS.row (.slice ap PS.length cp)) (fun _ _ => trivial)) Try.call85 (fun x w _ e => c_Agree1 (e.get (hS.at b6)) (e.get (hS.at b16))))) ?_; clear hS; intro v65 w hS g65
          refine sv (yAnd rfl (fun hB => (g65.1 hB)) rfl) ?_
          refine sv (yAsg rfl) ?_
          refine nil ?_
          show Code.wpIn _ _ _ _ _ _ _
          refine seqX ?_
          refine regionX rfl ?_
          refine sv (yMove rfl) ?_
          refine sv (yNot rfl) ?_
          refine nil ?_
          show Code.wpIn _ _ _ _ _ _ _
          refine condX rfl (fun c68 => ?_) (fun c68 => ?_)
          ·
            have hsd : sideG t now M PS u = false := by
              have h := c68
              rw [hgs] at h
              exact Eq.mp (Bool.not_eq_true' _) h
            refine regionX rfl ?_
            refine sv (yMove h7) ?_
            refine sv (yMove rfl) ?_
            refine sbslice hS Try.underlying44 Try.sizeOf3 rfl Try.zeroValue3 rfl (.cons rfl rfl .nil) rfl ?_; clear hS; intro b71 w hS
            refine sapp (bytes := 8) (size := 1) (v := ov) (m := 1) hS rfl rfl Try.underlying44 ti3 rfl rfl rfl rfl (by decide) (blk_cells (hS.at _)) rfl rfl (by omega) (by omega) ?_; clear hS; intro v72 w hS
            refine sv (yAsg rfl) ?_
            refine nil ?_
            show Code.wpIn _ _ _ _ _ _ _
            refine regionX rfl ?_
            refine sv (yAdd h52 rfl ⟨by omega, by omega⟩) ?_
            refine sv (yMove rfl) ?_
            refine nil ?_
            exact ⟨_, _, rfl, ⟨k + 1, _, h6, rfl, h9, h12, h51, rfl, (by rw [outI_take hx, if_neg (by rw [hsd]; decide), List.flatMap_append, List.length_append]; exact hS.sub (.cons _ (.cons _ (List.Sublist.refl _)))), (by omega), rfl⟩, by omega⟩
          ·
            have hsd : sideG t now M PS u = true := by
              have h := c68
              rw [hgs] at h
              exact Eq.mp (Bool.not_eq_false' _) h
            refine skipX ?_
            show Code.wpIn _ _ _ _ _ _ _
            refine regionX rfl ?_
            refine sv (yAdd h52 rfl ⟨by omega, by omega⟩) ?_
            refine sv (yMove rfl) ?_
            refine nil ?_
            exact ⟨_, _, rfl, ⟨k + 1, _, h6, h7, h9, h12, h51, rfl, (by rw [outI_take hx, if_pos hsd, List.append_nil]; exact hS.sub (.cons _ (List.Sublist.refl _))), (by omega), rfl⟩, by omega⟩
        ·
          simp only [Bool.and_eq_true, Bool.or_eq_true, Bool.and_eq_false_iff, Bool.or_eq_false_iff, decide_eq_true_eq, decide_eq_false_iff_not, Bool.not_eq_true, Bool.not_eq_false, Bool.not_not, Bool.not_eq_eq_eq_not, Bool.not_true, Bool.not_false, Bool.false_eq_true, Bool.true_eq_false, ne_eq, Decidable.not_not, not_false_eq_true, not_true_eq_false] at c53
          obtain rfl : k = l.length := by omega
          rw [List.take_length] at hS
          have hfin : agreeF l t now = (M, outI (sideG t now M PS) l 0, 0) := by unfold agreeF; rw [if_neg (fun h => h hg0), hPS, hMM]
          refine exitX ?_
          show Code.wpIn _ _ _ _ _ _ _
          refine seqX ?_
          refine regionX rfl ?_
          refine sv (yLdB h6 Try.isAgg3 (hS.at _) rfl) ?_
          refine sv (yMove h7) ?_
          refine sst hS h6 rfl Try.sizeOf3 rfl rfl rfl rfl ?_; clear hS; intro w hS
          refine sv (yAsg rfl) ?_
          refine sv (yAsg rfl) ?_
          refine nil ?_
          show Code.wpIn _ _ _ _ _ _ _
          refine wpIn_ret ?_
          refine leafD hS (fun w hS => (resV3 rfl (rc1 h6 Try.isAgg3 (hS.at _) rfl) (rt rfl) (rt rfl))) (fun w hS => ?_)
          rw [hfin]
          exact ⟨ov, rfl, hS.sub (.cons_cons _ (List.nil_sublist _))⟩
      ·
        intro D w L c pre hcb hS; exact absurd hcb.1 (by simp)
end Go.Proofs.Ytpgmehignepidaa
/- part Wk32 -/
namespace Go.Proofs.Ytpgmehignepidaa
open Go Bx
set_option maxHeartbeats 4000000 in
/-- barrage/barrageref01.Agree -/
theorem c_rAgree {l : List Gauge} {v : Value} {t now : Int} {w0 : World} (hl : Sl w0 5 RGauge v l) : CE Try.prog 40 #[v, .int .i64 t, .int .i64 now] w0 (fun u w' => ∃ ov, u = .tuple #[.int .i64 (rAgreeF l t now).1, ov, .int .i64 (rAgreeF l t now).2.2] ∧ St w0 w' [rowI ov 3 1 (rAgreeF l t now).2.1.length ((rAgreeF l t now).2.1.flatMap Bx.encI)]) := by
  obtain ⟨a, cap, rfl, hcap, hmx, hel⟩ := id hl
  refine enter Try.func40 rfl Try.ntmps40 rfl ?_
  have hS := St.start w0
  refine seq ?_
  refine region ?_
  refine sv (yAsg rfl) ?_
  refine sv (yAsg rfl) ?_
  refine sv (yAsg rfl) ?_
  refine nil ?_
  show Code.wp _ _ _ _ _
  refine seq ?_
  refine region ?_
  refine sv (yMove rfl) ?_
  refine sv (yMove rfl) ?_
  refine sv (yMove rfl) ?_
  refine scall Try.call80 (.cons rfl (.cons rfl (.cons rfl .nil))) (c_rgauges (hl.ext RGauge.stays hS.ext)) ?_
  rintro _ w ⟨rfl, hE⟩; replace hS := hS.step hE; clear hE
  refine sv (yAsg rfl) ?_
  refine nil ?_
  show Code.wp _ _ _ _ _
  refine seq ?_
  refine seq ?_
  refine region ?_
  refine sv (yMove rfl) ?_
  refine sv (yNeq rfl rfl) ?_
  refine nil ?_
  show Code.wp _ _ _ _ _
  refine cond rfl (fun c22 => ?_) (fun c22 => ?_)
  ·
    simp only [Bool.and_eq_true, Bool.or_eq_true, Bool.and_eq_false_iff, Bool.or_eq_false_iff, decide_eq_true_eq, decide_eq_false_iff_not, Bool.not_eq_true, Bool.not_eq_false, Bool.not_not, Bool.not_eq_eq_eq_not, Bool.not_true, Bool.not_false, Bool.false_eq_true, Bool.true_eq_false, ne_eq, Decidable.not_not, not_false_eq_true, not_true_eq_false] at c22
    have hfin : rAgreeF l t now = (0, [], gaugesE l t now) := by unfold rAgreeF; rw [if_pos c22]
    refine seq ?_
    refine region ?_
    refine sv (yMove rfl) ?_
    refine sv (yAsg rfl) ?_
    refine sv (yAsg rfl) ?_
    refine sv (yAsg rfl) ?_
    refine nil ?_
    show Code.wp _ _ _ _ _
    refine wp_ret (thenR ?_)
    refine retQ (res3 rfl rfl rfl rfl) ?_
    rw [hfin]
    exact ⟨.slice none 0 0, rfl, (hS.nilrow 3 1).sub (.cons_cons _ (List.nil_sublist _))⟩
  ·
    simp only [Bool.and_eq_true, Bool.or_eq_true, Bool.and_eq_false_iff, Bool.or_eq_false_iff, decide_eq_true_eq, decide_eq_false_iff_not, Bool.not_eq_true, Bool.not_eq_false, Bool.not_not, Bool.not_eq_eq_eq_not, Bool.not_true, Bool.not_false, Bool.false_eq_true, Bool.true_eq_false, ne_eq, Decidable.not_not, not_false_eq_true, not_true_eq_false] at c22
    have hg0 : gaugesE l t now = 0 := c22
    obtain ⟨hln8, hok, hnd, htk⟩ := gaugesE_zero hg0
    obtain ⟨htb, hnb⟩ := ticks2b htk
    refine skip ?_
    show Code.wp _ _ _ _ _
    refine seq ?_
    refine region ?_
    refine sv (yAsg rfl) ?_
    refine nil ?_
    show Code.wp _ _ _ _ _
    refine seq ?_
    refine region ?_
    refine sv (yMove rfl) ?_
    refine sv (yMove rfl) ?_
    refine sv (yMove rfl) ?_
    refine scall Try.call81 (.cons rfl (.cons rfl (.cons rfl .nil))) (c_rends (hl.ext RGauge.stays hS.ext) hok htb hln8) ?_
    rintro ov w hM; replace hS := hS.call1 hM; clear hM; obtain ⟨ae, ce, rfl⟩ := row_shape (hS.row ov)
    have hEl := rends_len t now l
    generalize hE : rends t now l = E at hS hEl ⊢
    refine sv (yAsg rfl) ?_
    refine nil ?_
    show Code.wp _ _ _ _ _
    refine seq ?_
    refine seq ?_
    refine region ?_
    refine sv (yAsg rfl) ?_
    refine nil ?_
    show Code.wp _ _ _ _ _
    refine block ?_
    refine loop (fun f w zz => ∃ (k : Nat), f 0 = .slice a l.length cap ∧ f 1 = .int .i64 t ∧ f 2 = .int .i64 now ∧ f 10 = .int .i64 (rmanyF t now l (E.take k)) ∧ f 11 = .slice ae E.length ce ∧ f 12 = .int .i64 (k : Int) ∧ StX [] w0 w [rowI (.slice ae E.length ce) 3 1 E.length (E.flatMap Bx.encI)] ∧ (k ≤ E.length) ∧ zz = E.length - k) _ ⟨_, rfl, 0, rfl, rfl, rfl, rfl, rfl, rfl, hS, (Nat.zero_le _), rfl⟩ ?_
    clear hS
    rintro f w _ ⟨k, h0, h1, h2, h10, h11, h12, hS, hk, rfl⟩
    refine seq ?_
    refine seq ?_
    refine region ?_
    refine sv (yMove h12) ?_
    refine sv (yMove h11) ?_
    refine sv (yLen rfl Try.underlying44) ?_
    refine sv (yLss rfl rfl) ?_
    refine nil ?_
    show Code.wp _ _ _ _ _
    refine cond rfl (fun c31 => ?_) (fun c31 => ?_)
    ·
      simp only [Bool.and_eq_true, Bool.or_eq_true, Bool.and_eq_false_iff, Bool.or_eq_false_iff, decide_eq_true_eq, decide_eq_false_iff_not, Bool.not_eq_true, Bool.not_eq_false, Bool.not_not, Bool.not_eq_eq_eq_not, Bool.not_true, Bool.not_false, Bool.false_eq_true, Bool.true_eq_false, ne_eq, Decidable.not_not, not_false_eq_true, not_true_eq_false] at c31
      obtain ⟨x, hx, hd⟩ := drop_of (l := E) (k := k) (by omega)
      obtain ⟨ge, rfl, -⟩ := row_get (hS.row (.slice ae E.length ce)) (by omega)
      refine skip ?_
      show Code.wp _ _ _ _ _
      refine seq ?_
      refine block ?_
      refine region ?_
      refine sv (yMove h10) ?_
      refine sv (yMove h0) ?_
      refine sv (yMove h11) ?_
      refine sv (yMove h12) ?_
      refine sv (yIx0 rfl rfl Try.runUnderlying44 Try.sizeOf3 (by omega)) ?_
      refine sv (yLd rfl Try.isAgg3 ((flat_cells0 encI_len (row_at (hS.row (.slice (some ⟨ge, 0, none⟩) E.length ce)) rfl (by omega)) hx).one)) ?_
      refine sv (yMove h1) ?_
      refine sv (yMove h2) ?_
      refine scall Try.call82 (.cons rfl (.cons rfl (.cons rfl (.cons rfl .nil)))) (c_ragreed (hl.ext RGauge.stays hS.ext) hok htb hln8) ?_
      rintro _ w ⟨rfl, hE⟩; replace hS := hS.step hE; clear hE
      refine sv (yMax rfl rfl) ?_
      refine sv (yAsg rfl) ?_
      refine nil ?_
      show Code.wp _ _ _ _ _
      refine region ?_
      refine sv (yMove h12) ?_
      refine sv (yAdd rfl rfl ⟨by omega, by omega⟩) ?_
      refine sv (yAsg rfl) ?_
      refine nil ?_
      exact ⟨_, _, rfl, ⟨k + 1, h0, h1, h2, (by rw [rmanyF_take hx]; exact rfl), h11, rfl, hS, (by omega), rfl⟩, by omega⟩
    ·
      simp only [Bool.and_eq_true, Bool.or_eq_true, Bool.and_eq_false_iff, Bool.or_eq_false_iff, decide_eq_true_eq, decide_eq_false_iff_not, Bool.not_eq_true, Bool.not_eq_false, Bool.not_not, Bool.not_eq_eq_eq_not, Bool.not_true, Bool.not_false, Bool.false_eq_true, Bool.true_eq_false, ne_eq, Decidable.not_not, not_false_eq_true, not_true_eq_false] at c31
      obtain rfl : k = E.length := by omega
      rw [List.take_length] at h10
      generalize hMM : rmanyF t now l E = M at h10
      refine exit ?_
      show Code.wp _ _ _ _ _
      refine seq ?_
      refine region ?_
      refine sv (yAsg rfl) ?_
      refine nil ?_
      show Code.wp _ _ _ _ _
      refine seq ?_
      refine seq ?_
      refine region ?_
      refine sv (yAsg rfl) ?_
      refine nil ?_
      show Code.wp _ _ _ _ _
      refine block ?_
      refine loop (fun f w zz => ∃ (i : Nat) (ov : Value), f 0 = .slice a l.length cap ∧ f 1 = .int .i64 t ∧ f 2 = .int .i64 now ∧ f 10 = .int .i64 M ∧ f 11 = .slice ae E.length ce ∧ f 13 = ov ∧ f 14 = .int .i64 (i : Int) ∧ StX [] w0 w [rowI ov 3 1 (outI (rsideG t now M l E) (l.take i) 0).length ((outI (rsideG t now M l E) (l.take i) 0).flatMap Bx.encI), rowI (.slice ae E.length ce) 3 1 E.length (E.flatMap Bx.encI)] ∧ (i ≤ l.length) ∧ zz = l.length - i) _ ⟨_, rfl, 0, _, h0, h1, h2, h10, h11, rfl, rfl, (hS.nilrow 3 1), (Nat.zero_le _), rfl⟩ ?_
      clear hS
      rintro f w _ ⟨i, ov, h0, h1, h2, h10, h11, h13, h14, hS, hi, rfl⟩
      refine seq ?_
      refine seq ?_
      refine region ?_
      refine sv (yMove h14) ?_
      refine sv (yMove h0) ?_
      refine sv (yLen rfl Try.underlying66) ?_
      refine sv (yLss rfl rfl) ?_
      refine nil ?_
      show Code.wp _ _ _ _ _
      refine cond rfl (fun c47 => ?_) (fun c47 => ?_)
      ·
        simp only [Bool.and_eq_true, Bool.or_eq_true, Bool.and_eq_false_iff, Bool.or_eq_false_iff, decide_eq_true_eq, decide_eq_false_iff_not, Bool.not_eq_true, Bool.not_eq_false, Bool.not_not, Bool.not_eq_eq_eq_not, Bool.not_true, Bool.not_false, Bool.false_eq_true, Bool.true_eq_false, ne_eq, Decidable.not_not, not_false_eq_true, not_true_eq_false] at c47
        obtain ⟨u, hxu, hd⟩ := drop_of (l := l) (k := i) (by omega)
        obtain ⟨b, o, cs, ha, hlen, hcs, hR⟩ := hel (i) (by omega)
        obtain rfl : u = l[i] := (List.getElem?_eq_some_iff.1 hxu).2.symm
        generalize l[i] = u at hxu hd hR
        have hg := hR
        have hrl := outI_len (rsideG t now M l E) (l.take i) 0
        have htl : (l.take i).length ≤ 8 := by simp; omega
        refine skip ?_
        show Code.wp _ _ _ _ _
        refine seq ?_
        refine block ?_
        refine seq ?_
        refine region ?_
        refine sv (yAsg rfl) ?_
        refine nil ?_
        show Code.wp _ _ _ _ _
        refine seq ?_
        refine seq ?_
        refine region ?_
        refine sv (yAsg rfl) ?_
        refine nil ?_
        show Code.wp _ _ _ _ _
        refine block ?_
        refine loop (fun f w zz => ∃ (k : Nat), f 0 = .slice a l.length cap ∧ f 1 = .int .i64 t ∧ f 2 = .int .i64 now ∧ f 10 = .int .i64 M ∧ f 11 = .slice ae E.length ce ∧ f 13 = ov ∧ f 14 = .int .i64 (i : Int) ∧ f 15 = .bool ((E.take k).any (fun x => decide ((cntG t now l x : Int) = M) && hasG t now u x)) ∧ f 16 = .int .i64 (k : Int) ∧ StX [] w0 w [rowI ov 3 1 (outI (rsideG t now M l E) (l.take i) 0).length ((outI (rsideG t now M l E) (l.take i) 0).flatMap Bx.encI), rowI (.slice ae E.length ce) 3 1 E.length (E.flatMap Bx.encI)] ∧ (k ≤ E.length) ∧ zz = E.length - k) _ ⟨_, rfl, 0, h0, h1, h2, h10, h11, h13, h14, rfl, rfl, hS, (Nat.zero_le _), rfl⟩ ?_
        clear hS
        rintro f w _ ⟨k, h0, h1, h2, h10, h11, h13, h14, h15, h16, hS, hk, rfl⟩
        refine seq ?_
        refine seq ?_
        refine region ?_
        refine sv (yMove h16) ?_
        refine sv (yMove h11) ?_
        refine sv (yLen rfl Try.underlying44) ?_
        refine sv (yLss rfl rfl) ?_
        refine nil ?_
        show Code.wp _ _ _ _ _
        refine cond rfl (fun c53 => ?_) (fun c53 => ?_)
        ·
          simp only [Bool.and_eq_true, Bool.or_eq_true, Bool.and_eq_false_iff, Bool.or_eq_false_iff, decide_eq_true_eq, decide_eq_false_iff_not, Bool.not_eq_true, Bool.not_eq_false, Bool.not_not, Bool.not_eq_eq_eq_not, Bool.not_true, Bool.not_false, Bool.false_eq_true, Bool.true_eq_false, ne_eq, Decidable.not_not, not_false_eq_true, not_true_eq_false] at c53
          obtain ⟨x, hx, hd⟩ := drop_of (l := E) (k := k) (by omega)
          obtain ⟨ge, rfl, -⟩ := row_get (hS.row (.slice ae E.length ce)) (by omega)
          refine skip ?_
          show Code.wp _ _ _ _ _
          refine seq ?_
          refine block ?_
          refine region_draw mixed (by kernel_rfl) hS ?_
          refine qv (fun w hS => (yMove h15)) ?_
          refine qv (fun w hS => (yMove rfl)) ?_
          refine qg rfl rfl rfl (fun g w hS => (yMove h0)) (fun v58 g58 => ?_)
          refine qg rfl rfl rfl (fun g w hS => (yMove h11)) (fun v59 g59 => ?_)
          refine qg rfl rfl rfl (fun g w hS => (yMove h16)) (fun v60 g60 => ?_)
          refine qg rfl rfl rfl (fun g w hS => (yIx0 (g59.1 g) (g60.1 g) Try.runUnderlying44 Try.sizeOf3 (by omega))) (fun v61 g61 => ?_)
          refine qg rfl rfl rfl (fun g w hS => (yLd (g61.1 g) Try.isAgg3 ((flat_cells0 encI_len (row_at (hS.row (.slice (some ⟨ge, 0, none⟩) E.length ce)) rfl (by omega)) hx).one))) (fun v62 g62 => ?_)
          refine qg rfl rfl rfl (fun g w hS => (yMove h1)) (fun v63 g63 => ?_)
          refine qg rfl rfl rfl (fun g w hS => (yMove h2)) (fun v64 g64 => ?_)
          refine qgc rfl rfl rfl Try.call82 (fun g => (.cons (g58.1 g) (.cons (g62.1 g) (.cons (g63.1 g) (.cons (g64.1 g) .nil))))) (fun g w hS => (c_ragreed (hl.ext RGauge.stays hS.ext) hok htb hln8)) (fun v65 g65 => ?_)
          refine qg rfl rfl rfl (fun g w hS => (yMove h10)) (fun v66 g66 => ?_)
          refine qg rfl rfl rfl (fun g w hS => (yEql (g65.1 g) (g66.1 g))) (fun v67 g67 => ?_)
          refine qg rfl rfl rfl (fun g w hS => (yMove (g67.1 g))) (fun v68 g68 => ?_)
          refine qgg rfl rfl g68 (fun g w hS => (yMove h0)) (fun v69 g69 => ?_)
          refine qgg rfl rfl g68 (fun g w hS => (yMove h14)) (fun v70 g70 => ?_)
          refine qgg rfl rfl g68 (fun g w hS => (yIxa (g69.1 g) ha (g70.1 g) Try.runUnderlying66 Try.sizeOf34 (by omega) (by omega))) (fun v71 g71 => ?_)
          refine qgg rfl rfl g68 (fun g w hS => (yLdA (g71.1 g) Try.isAgg34 Try.sizeOf34 (hcs.ext hS.ext) hlen)) (fun v72 g72 => ?_)
          refine qgg rfl rfl g68 (fun g w hS => (yMove h11)) (fun v73 g73 => ?_)
          refine qgg rfl rfl g68 (fun g w hS => (yMove h16)) (fun v74 g74 => ?_)
          refine qgg rfl rfl g68 (fun g w hS => (yIx0 (g73.1 g) (g74.1 g) Try.runUnderlying44 Try.sizeOf3 (by omega))) (fun v75 g75 => ?_)
          refine qgg rfl rfl g68 (fun g w hS => (yLd (g75.1 g) Try.isAgg3 ((flat_cells0 encI_len (row_at (hS.row (.slice (some ⟨ge, 0, none⟩) E.length ce)) rfl (by omega)) hx).one))) (fun v76 g76 => ?_)
          refine qgg rfl rfl g68 (fun g w hS => (yMove h1)) (fun v77 g77 => ?_)
          refine qgg rfl rfl g68 (fun g w hS => (yMove h2)) (fun v78 g78 => ?_)
          refine qggc rfl rfl g68 Try.call86 (fun g => (.cons (g72.1 g) (.cons (g76.1 g) (.cons (g77.1 g) (.cons (g78.1 g) .nil))))) (fun g w hS => (c_rhas (hg.ext hS.ext) (hok u (List.mem_of_getElem? hxu)) htb)) (fun v79 g79 => ?_)
          refine qg rfl rfl rfl (fun g w hS => (yAnd (g68.1 g) (fun hB => (g79.1 ⟨g, hB⟩)) rfl)) (fun v80 g80 => ?_)
          refine qv (fun w hS => (yOr rfl rfl (fun hB => (g80.1 hB)))) ?_
          refine qv (fun w hS => (yAsg rfl)) ?_
          clear hS; refine qnil (fun w hS => ?_)
          show Code.wp _ _ _ _ _
          refine region ?_
          refine sv (yMove h16) ?_
          refine sv (yAdd rfl rfl ⟨by omega, by omega⟩) ?_
          refine sv (yAsg rfl) ?_
          refine nil ?_
          exact ⟨_, _, rfl, ⟨k + 1, h0, h1, h2, h10, h11, h13, h14, (by rw [take_snoc hx, List.any_append, List.any_cons, List.any_nil, Bool.or_false]; exact rfl), rfl, hS, (by omega), rfl⟩, by omega⟩
        ·
          simp only [Bool.and_eq_true, Bool.or_eq_true, Bool.and_eq_false_iff, Bool.or_eq_false_iff, decide_eq_true_eq, decide_eq_false_iff_not, Bool.not_eq_true, Bool.not_eq_false, Bool.not_not, Bool.not_eq_eq_eq_not, Bool.not_true, Bool.not_false, Bool.false_eq_true, Bool.true_eq_false, ne_eq, Decidable.not_not, not_false_eq_true, not_true_eq_false] at c53
          obtain rfl : k = E.length := by omega
          rw [List.take_length] at h15
          refine exit ?_
          show Code.wp _ _ _ _ _
          refine seq ?_
          refine region ?_
          refine sv (yMove h15) ?_
          refine sv (yNot rfl) ?_
          refine nil ?_
          show Code.wp _ _ _ _ _
          refine cond rfl (fun c83 => ?_) (fun c83 => ?_)
          ·
            simp only [Bool.and_eq_true, Bool.or_eq_true, Bool.and_eq_false_iff, Bool.or_eq_false_iff, decide_eq_true_eq, decide_eq_false_iff_not, Bool.not_eq_true, Bool.not_eq_false, Bool.not_not, Bool.not_eq_eq_eq_not, Bool.not_true, Bool.not_false, Bool.false_eq_true, Bool.true_eq_false, ne_eq, Decidable.not_not, not_false_eq_true, not_true_eq_false] at c83
            refine region ?_
            refine sv (yMove h13) ?_
            refine sv (yMove h14) ?_
            refine sbslice hS Try.underlying44 Try.sizeOf3 rfl Try.zeroValue3 rfl (.cons rfl rfl .nil) rfl ?_; clear hS; intro b86 w hS
            refine sapp (bytes := 8) (size := 1) (v := ov) (m := 1) hS rfl rfl Try.underlying44 ti3 rfl rfl rfl rfl (by decide) (blk_cells (hS.at _)) rfl rfl (by omega) (by omega) ?_; clear hS; intro v87 w hS
            refine sv (yAsg rfl) ?_
            refine nil ?_
            show Code.wp _ _ _ _ _
            refine region ?_
            refine sv (yMove h14) ?_
            refine sv (yAdd rfl rfl ⟨by omega, by omega⟩) ?_
            refine sv (yAsg rfl) ?_
            refine nil ?_
            exact ⟨_, _, rfl, ⟨i + 1, _, h0, h1, h2, h10, h11, rfl, rfl, (by rw [outI_take hxu, if_neg (by rw [rsideG, c83]; decide), List.flatMap_append, List.length_append]; exact hS.sub (.cons _ (List.Sublist.refl _))), (by omega), rfl⟩, by omega⟩
          ·
            simp only [Bool.and_eq_true, Bool.or_eq_true, Bool.and_eq_false_iff, Bool.or_eq_false_iff, decide_eq_true_eq, decide_eq_false_iff_not, Bool.not_eq_true, Bool.not_eq_false, Bool.not_not, Bool.not_eq_eq_eq_not, Bool.not_true, Bool.not_false, Bool.false_eq_true, Bool.true_eq_false, ne_eq, Decidable.not_not, not_false_eq_true, not_true_eq_false] at c83
            refine skip ?_
            show Code.wp _ _ _ _ _
            refine region ?_
            refine sv (yMove h14) ?_
            refine sv (yAdd rfl rfl ⟨by omega, by omega⟩) ?_
            refine sv (yAsg rfl) ?_
            refine nil ?_
            exact ⟨_, _, rfl, ⟨i + 1, _, h0, h1, h2, h10, h11, h13, rfl, (by rw [outI_take hxu, if_pos (by rw [rsideG, c83]), List.append_nil]; exact hS), (by omega), rfl⟩, by omega⟩
      ·
        simp only [Bool.and_eq_true, Bool.or_eq_true, Bool.and_eq_false_iff, Bool.or_eq_false_iff, decide_eq_true_eq, decide_eq_false_iff_not, Bool.not_eq_true, Bool.not_eq_false, Bool.not_not, Bool.not_eq_eq_eq_not, Bool.not_true, Bool.not_false, Bool.false_eq_true, Bool.true_eq_false, ne_eq, Decidable.not_not, not_false_eq_true, not_true_eq_false] at c47
        obtain rfl : i = l.length := by omega
        rw [List.take_length] at hS
        have hfin : rAgreeF l t now = (M, outI (rsideG t now M l E) l 0, 0) := by unfold rAgreeF; rw [if_neg (fun h => h hg0), hE, hMM]
        refine exit ?_
        show Code.wp _ _ _ _ _
        refine seq ?_
        refine region ?_
        refine sv (yMove h10) ?_
        refine sv (yMove h13) ?_
        refine sv (yAsg rfl) ?_
        refine sv (yAsg rfl) ?_
        refine sv (yAsg rfl) ?_
        refine nil ?_
        show Code.wp _ _ _ _ _
        refine wp_ret ?_
        refine retQ (res3 rfl rfl rfl rfl) ?_
        rw [hfin]
        exact ⟨ov, rfl, hS.sub (.cons_cons _ (List.nil_sublist _))⟩
end Go.Proofs.Ytpgmehignepidaa
/- part P23 -/
namespace Bx
open Go Go.RowKit
theorem agree_bd {l : List Gauge} {t now : Int} : ∀ x ∈ (agreeF l t now).2.1, I64 x := by
  intro x hx
  unfold agreeF at hx
  by_cases h : gaugesE l t now ≠ 0
  · rw [if_pos h] at hx; cases hx
  · rw [if_neg h] at hx
    obtain ⟨h8, _⟩ := gaugesE_zero (Classical.not_not.1 h)
    have := outI_bd x hx
    exact ⟨by omega, by omega⟩
theorem ragree_bd {l : List Gauge} {t now : Int} : ∀ x ∈ (rAgreeF l t now).2.1, I64 x := by
  rw [← agree_law]; exact agree_bd
end Bx
/- part Wk33 -/
namespace Go.Proofs.Ytpgmehignepidaa
open Go Bx
set_option maxHeartbeats 2000000 in
/-- barrage/barragelaw01.TideSounds -/
theorem w_TideSounds {l : List Gauge} {v : Value} {xs : List Value} {x : At} {w0 : World} (hl : Sl w0 5 RGauge v l) (hx : RAt w0 xs x) : CV Try.prog 10 #[v, .agg xs.toArray] w0 (.bool true) := by
  obtain ⟨a, cap, rfl, hcap, hmx, hel⟩ := id hl
  obtain ⟨wrong, t, now⟩ := x
  obtain ⟨rfl, hw, ht, hn⟩ := hx
  simp only [] at hw ht hn
  have hsl := sound_law l wrong t now
  have hal := agree_law l t now
  refine enter Try.func10 rfl Try.ntmps10 rfl ?_
  have hS := St.start w0
  refine seq ?_
  refine region ?_
  refine sbox hS rfl rfl ?_; clear hS; intro b3 w hS
  refine sv (yAsg rfl) ?_
  refine nil ?_
  show Code.wp _ _ _ _ _
  refine seq ?_
  refine region ?_
  refine sv (yMove rfl) ?_
  refine sv (fa68_0 rfl) ?_
  refine sv (yLdB rfl Try.isAgg3 (hS.at _) rfl) ?_
  refine sv (fa68_1 rfl) ?_
  refine sv (yLdB rfl Try.isAgg3 (hS.at _) rfl) ?_
  refine sv (fa68_2 rfl) ?_
  refine sv (yLdB rfl Try.isAgg3 (hS.at _) rfl) ?_
  refine scall Try.call37 (.cons rfl (.cons rfl (.cons rfl (.cons rfl .nil)))) (c_Sound (hl.ext RGauge.stays hS.ext) hw ht hn) ?_
  rintro _ w ⟨rfl, hE⟩; replace hS := hS.step hE; clear hE
  refine sv (yMove rfl) ?_
  refine sv (yExt rfl rfl) ?_
  refine sv (yExt rfl rfl) ?_
  refine salloc hS Try.zeroValue38 rfl ?_; clear hS; intro b5 w hS
  refine sst hS rfl rfl Try.sizeOf38 rfl rfl rfl rfl ?_; clear hS; intro w hS
  refine sv (yAsg rfl) ?_
  refine nil ?_
  show Code.wp _ _ _ _ _
  refine seq ?_
  refine region ?_
  refine sv (yMove rfl) ?_
  refine sv (fa68_0 rfl) ?_
  refine sv (yLdB rfl Try.isAgg3 (hS.at _) rfl) ?_
  refine sv (fa68_1 rfl) ?_
  refine sv (yLdB rfl Try.isAgg3 (hS.at _) rfl) ?_
  refine sv (fa68_2 rfl) ?_
  refine sv (yLdB rfl Try.isAgg3 (hS.at _) rfl) ?_
  refine scall Try.call38 (.cons rfl (.cons rfl (.cons rfl (.cons rfl .nil)))) (c_rSound (hl.ext RGauge.stays hS.ext)) ?_
  rintro _ w ⟨rfl, hE⟩; replace hS := hS.step hE; clear hE
  refine sv (yMove rfl) ?_
  refine sv (yExt rfl rfl) ?_
  refine sv (yExt rfl rfl) ?_
  refine salloc hS Try.zeroValue38 rfl ?_; clear hS; intro b7 w hS
  refine sst hS rfl rfl Try.sizeOf38 rfl rfl rfl rfl ?_; clear hS; intro w hS
  refine sv (yAsg rfl) ?_
  refine nil ?_
  show Code.wp _ _ _ _ _
  refine seq ?_
  refine seq ?_
  refine region ?_
  refine sv (yLdBA rfl Try.isAgg38 Try.sizeOf38 (hS.at _) rfl rfl) ?_
  refine sv (yLdBA rfl Try.isAgg38 Try.sizeOf38 (hS.at _) rfl rfl) ?_
  refine sv (neS38 rfl rfl) ?_
  refine sv (yMove rfl) ?_
  refine sg rfl rfl rfl (fun g => (yMove rfl)) (fun v39 g39 => ?_)
  refine sg rfl rfl rfl (fun g => (yMove rfl)) (fun v40 g40 => ?_)
  refine sg rfl rfl rfl (fun g => (yNeq (g39.1 g) (g40.1 g))) (fun v41 g41 => ?_)
  refine sv (yOr rfl rfl (fun hB => (g41.1 hB))) ?_
  refine nil ?_
  show Code.wp _ _ _ _ _
  refine cond rfl (fun c42 => ?_) (fun c42 => ?_)
  ·
    exact absurd c42 (by rw [hsl]; simp)
  ·
    refine skip ?_
    show Code.wp _ _ _ _ _
    refine seq ?_
    refine region ?_
    refine sv (yMove rfl) ?_
    refine sv (fa68_1 rfl) ?_
    refine sv (yLdB rfl Try.isAgg3 (hS.at _) rfl) ?_
    refine sv (fa68_2 rfl) ?_
    refine sv (yLdB rfl Try.isAgg3 (hS.at _) rfl) ?_
    refine scall Try.call39 (.cons rfl (.cons rfl (.cons rfl .nil))) (c_Agree (hl.ext RGauge.stays hS.ext) ht hn) ?_
    rintro _ w ⟨ov, rfl, hM⟩; replace hS := hS.call1 hM; clear hM
    refine sv (yMove rfl) ?_
    refine sv (yExt rfl rfl) ?_
    refine sv (yExt rfl rfl) ?_
    refine sv (yExt rfl rfl) ?_
    refine sv (yAsg rfl) ?_
    refine sv (yAsg rfl) ?_
    refine sv (yAsg rfl) ?_
    refine nil ?_
    show Code.wp _ _ _ _ _
    refine seq ?_
    refine region ?_
    refine sv (yMove rfl) ?_
    refine sv (fa68_1 rfl) ?_
    refine sv (yLdB rfl Try.isAgg3 (hS.at _) rfl) ?_
    refine sv (fa68_2 rfl) ?_
    refine sv (yLdB rfl Try.isAgg3 (hS.at _) rfl) ?_
    refine scall Try.call40 (.cons rfl (.cons rfl (.cons rfl .nil))) (c_rAgree (hl.ext RGauge.stays hS.ext)) ?_
    rintro _ w ⟨ow, rfl, hM⟩; replace hS := hS.call1 hM; clear hM
    refine sv (yMove rfl) ?_
    refine sv (yExt rfl rfl) ?_
    refine sv (yExt rfl rfl) ?_
    refine sv (yExt rfl rfl) ?_
    refine sv (yAsg rfl) ?_
    refine sv (yAsg rfl) ?_
    refine sv (yAsg rfl) ?_
    refine nil ?_
    show Code.wp _ _ _ _ _
    refine seq ?_
    refine region ?_
    refine sv (yMove rfl) ?_
    refine sv (yMove rfl) ?_
    refine sv (yEql rfl rfl) ?_
    refine sv (yMove rfl) ?_
    refine sg rfl rfl rfl (fun g => (yMove rfl)) (fun v67 g67 => ?_)
    refine sg rfl rfl rfl (fun g => (yMove rfl)) (fun v68 g68 => ?_)
    refine sgc hS rfl rfl rfl Try.call41 (fun g => (.cons (g67.1 g) (.cons (g68.1 g) .nil))) (fun g => (c_Ints (sl_ints (hS.row ov) rfl agree_bd) (sl_ints (hS.row ow) rfl ragree_bd))) ?_; clear hS; intro v69 w hS g69
    refine sv (yAnd rfl (fun hB => (g69.1 hB)) rfl) ?_
    refine sv (yMove rfl) ?_
    refine sg rfl rfl rfl (fun g => (yMove rfl)) (fun v72 g72 => ?_)
    refine sg rfl rfl rfl (fun g => (yMove rfl)) (fun v73 g73 => ?_)
    refine sg rfl rfl rfl (fun g => (yEql (g72.1 g) (g73.1 g))) (fun v74 g74 => ?_)
    refine sv (yAnd rfl (fun hB => (g74.1 hB)) rfl) ?_
    refine sv (yMove rfl) ?_
    refine sgc hS rfl rfl rfl Try.call23 (fun g => .nil) (fun g => c_Awake) ?_; clear hS; intro v77 w hS g77
    refine sv (yAnd rfl (fun hB => (g77.1 hB)) rfl) ?_
    refine sv (yAsg rfl) ?_
    refine nil ?_
    show Code.wp _ _ _ _ _
    refine wp_ret ?_
    exact retV (res1 rfl (eqB (by rw [hal]; simp))) hS.ext
end Go.Proofs.Ytpgmehignepidaa
/- part P24 -/
namespace Bx
open Go Go.RowKit
theorem saysF_G {g : Gauge} {t now : Int} (h : (checkG g).2.2 = 0) (ht : ticksE [t, now] = 0) : saysF g t now = saysG g t now := by
  unfold saysF saysE
  rw [if_pos h, ht, if_neg (by simp)]
theorem gauges_checks {l : List Gauge} {t now : Int} (h : gaugesE l t now = 0) : ∀ u ∈ l, (checkG u).2.2 = 0 := by
  unfold gaugesE at h
  split at h
  · cases h
  split at h
  · rename_i h1 h2; exact absurd h h2
  · rename_i h1 h2
    exact gErrs_zero (Classical.not_not.1 h2)
/-- Either no level is said by enough, or the answer runs from the least such level to the greatest. -/
theorem sound_way {l : List Gauge} {wrong t now : Int} (h : soundE l wrong t now = 0) :
    (soundF l wrong t now = (⟨0, 0⟩, 9) ∧ ∀ v, (cntG t now l v : Int) < l.length - wrong) ∨
    ∃ a b, soundF l wrong t now = (⟨a, b⟩, 0) ∧ (l.length : Int) - wrong ≤ cntG t now l a ∧ (l.length : Int) - wrong ≤ cntG t now l b ∧ ∀ v, (l.length : Int) - wrong ≤ cntG t now l v → a ≤ v ∧ v ≤ b := by
  obtain ⟨_, hw⟩ := soundE_zero (fun k => k h)
  rw [soundF_ok h, piecesF_S]
  simp only [cnt_spans]
  rcases sound_spec (SP := spansG t now l) spans_ok (need := (l.length : Int) - wrong) (by omega) with ⟨h1, h2⟩ | ⟨_, a, b, h2, h3⟩
  · exact .inl ⟨by rw [h1]; rfl, h2⟩
  · exact .inr ⟨a, b, h2, h3⟩
theorem agree_ok {l : List Gauge} {t now : Int} (h : gaugesE l t now = 0) : agreeF l t now = (manyF (piecesF t now l), outI (sideG t now (manyF (piecesF t now l)) (piecesF t now l)) l 0, 0) := by
  unfold agreeF; rw [if_neg (fun k => k h)]
theorem agree_e {l : List Gauge} {t now : Int} : (agreeF l t now).2.2 = gaugesE l t now := by
  unfold agreeF
  by_cases h : gaugesE l t now ≠ 0
  · rw [if_pos h]
  · rw [if_neg h]; exact (Classical.not_not.1 h).symm
theorem cnt_le_many {l : List Gauge} {t now : Int} (h : gaugesE l t now = 0) (v : Int) : (cntG t now l v : Int) ≤ (agreeF l t now).1 := by
  rw [agree_ok h, piecesF_S, cnt_spans]
  exact (many_eq spans_ok).2 v
theorem outI_count (p : Gauge → Bool) : ∀ (l : List Gauge) (i : Int), (outI p l i).length + l.countP p = l.length
  | [], _ => rfl
  | u :: l, i => by
    have := outI_count p l (i + 1)
    simp only [outI, List.countP_cons, List.length_cons]
    by_cases h : p u = true
    · rw [if_pos h, if_pos h]; omega
    · rw [if_neg h, if_neg h]; simp only [List.length_cons]; omega
/-- Someone says what most say. -/
theorem many_at {l : List Gauge} {t now : Int} (h : gaugesE l t now = 0) : (agreeF l t now).1 = 0 ∨ ∃ x ∈ rends t now l, (cntG t now l x : Int) = (agreeF l t now).1 := by
  rw [agree_law]
  have e : rAgreeF l t now = (rmanyF t now l (rends t now l), outI (rsideG t now (rmanyF t now l (rends t now l)) l (rends t now l)) l 0, 0) := by unfold rAgreeF; rw [if_neg (fun k => k h)]
  rw [e]
  exact (foldMax (fun x : Int => (cntG t now l x : Int)) (rends t now l) 0).2.2
theorem others_le {l : List Gauge} {t now : Int} (h : gaugesE l t now = 0) : ((agreeF l t now).2.1.length : Int) ≤ l.length - (agreeF l t now).1 := by
  rcases many_at h with h0 | ⟨x, hx, hc⟩
  · rw [h0]
    have : (agreeF l t now).2.1.length ≤ l.length := by rw [agree_ok h]; exact outI_len _ _ _
    omega
  · rw [← hc]
    have e : (agreeF l t now).2.1 = outI (rsideG t now (agreeF l t now).1 l (rends t now l)) l 0 := by
      rw [agree_law]; unfold rAgreeF; rw [if_neg (fun k => k h)]
    rw [e]
    have h1 := outI_count (rsideG t now (agreeF l t now).1 l (rends t now l)) l 0
    have h2 : cntG t now l x ≤ l.countP (rsideG t now (agreeF l t now).1 l (rends t now l)) := List.countP_mono_left (fun u hu hh => by
      unfold rsideG
      exact List.any_eq_true.2 ⟨x, hx, by rw [hh, hc]; simp⟩)
    omega
/-- One more may be wrong: what is said is as wide or wider. -/
theorem sound_more {l : List Gauge} {wrong t now a b : Int} (h : soundE l wrong t now = 0) (hs : soundF l wrong t now = (⟨a, b⟩, 0)) (hw : wrong + 1 < l.length) :
    ∃ c d, soundF l (wrong + 1) t now = (⟨c, d⟩, 0) ∧ c ≤ a ∧ b ≤ d := by
  obtain ⟨hg, hb⟩ := soundE_zero (fun k => k h)
  have h2 : soundE l (wrong + 1) t now = 0 := soundE_ok (fun k => k hg) (outB_false.2 ⟨by omega, by omega⟩)
  rcases sound_way h with ⟨k, _⟩ | ⟨a', b', k, k1, k2, _⟩
  · rw [k] at hs; cases hs
  rw [hs] at k
  cases k
  rcases sound_way h2 with ⟨_, q⟩ | ⟨c, d, q, _, _, q3⟩
  · have := q a; omega
  · exact ⟨c, d, q, (q3 a (by omega)).1, (q3 b (by omega)).2⟩
end Bx
/- part P25 -/
namespace Bx
open Go Go.RowKit
theorem soundF_bad {l : List Gauge} {wrong t now : Int} (h : gaugesE l t now ≠ 0 ∨ wrong < 0 ∨ (l.length : Int) ≤ wrong) : (soundF l wrong t now).2 ≠ 0 := by
  have hE : soundE l wrong t now ≠ 0 := by
    intro k
    obtain ⟨k1, k2⟩ := soundE_zero (fun q => q k)
    rcases h with h | h | h
    · exact h k1
    · omega
    · omega
  unfold soundF
  rw [if_pos hE]
  exact hE
theorem many_lt {l : List Gauge} {t now need : Int} (h : gaugesE l t now = 0) (hn : 1 ≤ need) (ha : ∀ v, (cntG t now l v : Int) < need) : (agreeF l t now).1 < need := by
  rcases many_at h with h0 | ⟨x, _, hc⟩
  · omega
  · rw [← hc]; exact ha x
end Bx
/- part P26 -/
namespace Bx
open Go Go.RowKit
theorem cnt_says {t now v : Int} {l : List Gauge} (h : 0 < cntG t now l v) : ∃ u ∈ l, (saysG u t now).2 = 0 ∧ (saysG u t now).1.lo ≤ v ∧ v ≤ (saysG u t now).1.hi := by
  obtain ⟨u, hu, hh⟩ := List.countP_pos_iff.1 h
  simp only [hasG, Bool.and_eq_true, decide_eq_true_eq] at hh
  have := inB_iff.1 hh.2
  exact ⟨u, hu, hh.1, this.1, this.2⟩
theorem soundF_zero {l : List Gauge} {wrong t now : Int} (h : (soundF l wrong t now).2 = 0) :
    soundE l wrong t now = 0 ∧ Bd t 0 200000 ∧ (soundF l wrong t now).1.lo ≤ (soundF l wrong t now).1.hi ∧ -20000 ≤ (soundF l wrong t now).1.lo ∧ (soundF l wrong t now).1.hi ≤ 20000 := by
  have hE : soundE l wrong t now = 0 := by
    refine Decidable.byContradiction fun hn => ?_
    unfold soundF at h
    rw [if_pos hn] at h
    exact hn h
  obtain ⟨hg, hw⟩ := soundE_zero (fun k => k hE)
  obtain ⟨_, _, _, htk⟩ := gaugesE_zero hg
  refine ⟨hE, (ticks2b htk).1, ?_⟩
  rcases sound_way hE with ⟨k, _⟩ | ⟨a, b, k, k1, k2, k3⟩
  · rw [k] at h; cases h
  · rw [k]
    have ha := k3 a k1
    obtain ⟨u, _, u1, u2, _⟩ := cnt_says (t := t) (now := now) (l := l) (v := a) (by omega)
    obtain ⟨x, _, x1, _, x3⟩ := cnt_says (t := t) (now := now) (l := l) (v := b) (by omega)
    have b1 := saysG_bd u1
    have b2 := saysG_bd x1
    exact ⟨ha.2, by show -20000 ≤ a; omega, by show b ≤ 20000; omega⟩
def residF (t : Table) (l : List Gauge) (wrong tick now : Int) : Span × Int :=
  if (checkT t).2 ≠ 0 then (⟨0, 0⟩, (checkT t).2) else if (soundF l wrong tick now).2 ≠ 0 then (⟨0, 0⟩, (soundF l wrong tick now).2)
  else (⟨(soundF l wrong tick now).1.lo - (lvlT t tick).hi, (soundF l wrong tick now).1.hi - (lvlT t tick).lo⟩, 0)
theorem resid_e {t : Table} {l : List Gauge} {wrong tick now : Int} : (residF t l wrong tick now).2 = 0 ↔ (checkT t).2 = 0 ∧ (soundF l wrong tick now).2 = 0 := by
  unfold residF
  by_cases h : (checkT t).2 ≠ 0
  · rw [if_pos h]; exact ⟨fun k => absurd k h, fun k => k.1⟩
  · rw [if_neg h]
    by_cases h2 : (soundF l wrong tick now).2 ≠ 0
    · rw [if_pos h2]; exact ⟨fun k => absurd k h2, fun k => k.2⟩
    · rw [if_neg h2]; exact ⟨fun _ => ⟨Classical.not_not.1 h, Classical.not_not.1 h2⟩, fun _ => rfl⟩
theorem levelF_bad {t : Table} {tick : Int} (h : (checkT t).2 = 0) (h2 : (levelF t tick).2 ≠ 0) : ¬ Bd tick 0 200000 := fun k => h2 (by rw [levelF_ok h k])
/-- Of a span a part by 255ths. -/
theorem part255 {lo hi k : Int} (h : lo ≤ hi) (hk : Bd k 0 255) : lo ≤ lo + (hi - lo) * k / 255 ∧ lo + (hi - lo) * k / 255 ≤ hi := by
  have h1 : 0 ≤ (hi - lo) * k := Int.mul_nonneg (by omega) hk.1
  have h2 : (hi - lo) * k ≤ (hi - lo) * 255 := Int.mul_le_mul_of_nonneg_left hk.2 (by omega)
  omega
end Bx
