/- Maps of the call's own; slices that came in, as lists; literals of slices. -/
import Derived.Test.YtpgmehignepidaaLib4
set_option linter.all false
namespace Bx
open Go Go.RowKit

/-! ### maps -/
section
variable {κ : Type} [DecidableEq κ]
def MapOk (enc : κ → Value) (m : List (κ × Value)) : Obj → Prop := fun o => ∃ es c, o = .map es c ∧ es.toList.map (fun e => (e.key, e.val)) = m.map (fun p => (enc p.1, p.2))
abbrev mapI (b : Nat) (enc : κ → Value) (m : List (κ × Value)) : Item := cellI b (MapOk enc m)
def getM : List (κ × Value) → κ → Option Value
  | [], _ => none
  | (a, x) :: m, k => if k = a then some x else getM m k
def setM : List (κ × Value) → κ → Value → List (κ × Value)
  | [], k, v => [(k, v)]
  | (a, x) :: m, k, v => if k = a then (a, v) :: m else (a, x) :: setM m k v
structure KeyOk (P : Program) (T : TypeId) (enc : κ → Value) : Prop where
  und : ∃ d, P.underlying T = some d ∧ (∀ a b, Instr.sameNow d (enc a) (enc b) = some (decide (a = b))) ∧ (match d with | .interface _ | .array _ _ | .struct _ => false | _ => true) = true
  bits : ∀ a, Instr.sameBits 10000 (enc a) (enc a) = true
theorem bEq (a b : ByteArray) : (a == b) = decide (a = b) := by
  rw [Bool.eq_iff_iff]
  simp only [decide_eq_true_eq]
  constructor
  · intro h
    have h' : (a.data == b.data) = true := h
    exact ByteArray.ext (by simpa using h')
  · rintro rfl
    show (a.data == a.data) = true
    simp
theorem keyStr {P : Program} {T : TypeId} (h : P.underlying T = some .string) : KeyOk P T Value.string := by
  refine ⟨⟨_, h, fun a b => ?_, rfl⟩, fun a => ?_⟩
  · simp only [Instr.sameNow, bEq]
  · show (a == a) = true
    rw [bEq]; simp
theorem keyInt {P : Program} {T : TypeId} {k : IntKind} (h : P.underlying T = some (.int k)) : KeyOk P T (Value.int k) := by
  refine ⟨⟨_, h, fun a b => ?_, rfl⟩, fun a => ?_⟩
  · have : (a == b) = decide (a = b) := by by_cases h : a = b <;> simp [h]
    simp only [Instr.sameNow, if_true, this]
  · show (k == k && a == a) = true
    simp
variable {P : Program}
theorem run_checkKey {T : TypeId} {enc : κ → Value} (hk : KeyOk P T enc) (e : Bool) (v : Value) (w : World) : (Instr.checkKey e 10000 T v).run P w = .ok () w := by
  obtain ⟨d, hd, _, h2⟩ := hk.und
  show (Instr.checkKey e (9999 + 1) T v).run P w = _
  rw [Instr.checkKey]
  simp only [Sem.run_bind, run_underlying hd, Result.andThen_ok]
  cases d <;> first | rfl | (cases h2)
theorem findNow_get {d : TypeDesc} {enc : κ → Value} (hd : ∀ a b, Instr.sameNow d (enc a) (enc b) = some (decide (a = b))) (k : κ) : ∀ (es : List MapEntry) (m : List (κ × Value)) (i : Nat), es.map (fun (e : MapEntry) => (e.key, e.val)) = m.map (fun p => (enc p.1, p.2)) →
    ∃ r, Instr.findNow d (enc k) es i = some r ∧ r.map (·.2) = getM m k ∧
      (∀ j v0, r = some (j, v0) → ∃ l, j = i + l ∧ ∃ (hl : l < es.length), es[l].key = enc k ∧ ∀ v, (es.modify l (fun e => { e with key := enc k, val := v })).map (fun (e : MapEntry) => (e.key, e.val)) = (setM m k v).map (fun p => (enc p.1, p.2))) ∧
      (r = none → ∀ v, (es ++ [(⟨enc k, v, 0⟩ : MapEntry)]).map (fun (e : MapEntry) => (e.key, e.val)) = (setM m k v).map (fun p => (enc p.1, p.2)))
  | [], m, i, h => by
    obtain rfl : m = [] := by simpa using h.symm
    exact ⟨none, rfl, rfl, (fun _ _ e => by cases e), fun _ v => rfl⟩
  | e :: es, m, i, h => by
    cases m with
    | nil => simp at h
    | cons p m =>
      obtain ⟨a, x⟩ := p
      simp only [List.map_cons, List.cons.injEq, Prod.mk.injEq] at h
      obtain ⟨⟨h1, h2⟩, h3⟩ := h
      by_cases hka : k = a
      · subst hka
        refine ⟨some (i, e.val), by simp [Instr.findNow, h1, hd], by simp [getM, h2], ?_, fun e => by cases e⟩
        intro j v0 hj
        simp only [Option.some.injEq, Prod.mk.injEq] at hj
        refine ⟨0, by omega, by simp, h1, fun v => ?_⟩
        simp [setM, h3]
      · obtain ⟨r, hr1, hr2, hr3, hr4⟩ := findNow_get hd k es m (i + 1) h3
        refine ⟨r, by simp [Instr.findNow, h1, hd, hka, hr1], by simp [getM, hka, hr2], ?_, ?_⟩
        · intro j v0 hj
          obtain ⟨l, rfl, hl, hk, hv⟩ := hr3 j v0 hj
          refine ⟨l + 1, by omega, by simp; omega, by simpa using hk, fun v => ?_⟩
          have := hv v
          simp only [List.modify_succ_cons, List.map_cons, setM, hka, if_false, h1, h2]
          rw [this]
        · intro hn v
          have := hr4 hn v
          simp only [List.cons_append, List.map_cons, setM, hka, if_false, h1, h2]
          rw [this]
theorem run_lookup {w : World} {T K E : TypeId} {b : Nat} {enc : κ → Value} {m : List (κ × Value)} {k : κ} {z : Value} {ok : Bool} (hT : ∀ w, (underlying T).run P w = .ok (.map K E) w) (hk : KeyOk P K enc) (hz : ∀ w, (zeroValue E).run P w = .ok z w)
    (hb : ∃ o, w.heap[b]? = some o ∧ MapOk enc m o) : (Instr.lookup T (.map (some b)) (enc k) ok).run P w = .ok (if ok then .tuple #[(getM m k).getD z, .bool (getM m k).isSome] else (getM m k).getD z) w := by
  obtain ⟨o, hb, es, c, rfl, hm⟩ := hb
  obtain ⟨d, hd, hs, h2⟩ := hk.und
  obtain ⟨r, hr, hg, _⟩ := findNow_get hs k es.toList m 0 hm
  have hget : (getObj b).run P w = .ok (.map es c) w := by simp [getObj, Sem.run, hb]
  rw [← hg]
  simp only [Instr.lookup, Sem.run_bind, hT, Result.andThen_ok, hget, Sem.run_pure, run_checkKey hk, Instr.findKey, run_underlying hd, hr]
  cases r with
  | none => simp [hz]
  | some p => simp
theorem run_mapUpdate {w : World} {T K E : TypeId} {b : Nat} {enc : κ → Value} {m : List (κ × Value)} {k : κ} {v : Value} (hT : ∀ w, (underlying T).run P w = .ok (.map K E) w) (hk : KeyOk P K enc)
    (hb : ∃ o, w.heap[b]? = some o ∧ MapOk enc m o) : ∃ o' w', (Instr.mapUpdate T (.map (some b)) (enc k) v).run P w = .ok () w' ∧ Put b o' w w' ∧ MapOk enc (setM m k v) o' := by
  obtain ⟨o, hb, es, c, rfl, hm⟩ := hb
  obtain ⟨d, hd, hs, h2⟩ := hk.und
  obtain ⟨r, hr, _, hsome, hnone⟩ := findNow_get hs k es.toList m 0 hm
  have hget : (getObj b).run P w = .ok (.map es c) w := by simp [getObj, Sem.run, hb]
  have hlt : b < w.heap.size := lt_of_heap hb
  have hset : ∀ o', (setObj b o').run P w = .ok () { w with heap := w.heap.setIfInBounds b o' } := fun o' => by simp [setObj, Sem.run, hb]
  have hput : ∀ o', Put b o' w { w with heap := w.heap.setIfInBounds b o' } := fun o' => by
    refine ⟨rfl, rfl, rfl, by simp, by simp [hlt], fun j _ hj => ?_⟩
    show (w.heap.setIfInBounds b o')[j]? = _
    rw [Array.getElem?_setIfInBounds, if_neg (fun e => hj e.symm)]
  cases r with
  | none =>
    refine ⟨.map (es.push ⟨enc k, v, c⟩) (c + 1), _, ?_, hput _, _, _, rfl, ?_⟩
    · simp only [Instr.mapUpdate, Sem.run_bind, hT, Result.andThen_ok, hget, run_checkKey hk, Instr.findKey, run_underlying hd, hr, Sem.run_pure, hset]
    · have := hnone rfl v
      simpa using this
  | some p =>
    obtain ⟨j, v0⟩ := p
    obtain ⟨l, hj, hl, hkey, hv⟩ := hsome j v0 rfl
    rw [Nat.zero_add] at hj
    subst hj
    have hl' : j < es.size := by simpa using hl
    have hstay : ∀ w, (Instr.keyThatStays (((es[j]?).map (·.key)).getD (enc k)) (enc k)).run P w = .ok (enc k) w := fun w => by
      have : es[j].key = enc k := by simpa using hkey
      simp [Instr.keyThatStays, hl', this, hk.bits]
    refine ⟨.map (es.modify j fun e => { e with key := enc k, val := v }) c, _, ?_, hput _, _, _, rfl, ?_⟩
    · simp only [Instr.mapUpdate, Sem.run_bind, hT, Result.andThen_ok, hget, run_checkKey hk, Instr.findKey, run_underlying hd, hr, Sem.run_pure, hstay, hset]
    · have := hv v
      simpa [Array.toList_modify] using this
end

section
variable {P : Program} {ops : Array Oper} {Q : Exit → Act → World → Prop} {n : Nat} {f : Fr} {S : List Nat} {w0 w w' : World} {L L' : List Item} {rest : List Oper} {d : Nat} {ty : TypeId} {pos : String} {af : Array Edge}
variable {κ : Type} [DecidableEq κ]
omit [DecidableEq κ] in
theorem smkmap {T : TypeId} (enc : κ → Value) (hS : StX S w0 w L) (h : ∀ b w', StX S w0 w' (mapI b enc [] :: L) → wpL P ops Q n rest (upd f d (.map (some b))) w') : wpL P ops Q n (⟨some d, .makeMap T none, ty, pos, af, none⟩ :: rest) f w := by
  refine sv (v := .map (some w.heap.size)) (w' := w.alloc (.map #[] 0)) ?_ (h w.heap.size _ (hS.call1 ⟨(ext_alloc w _).extX, ?_, ?_, ?_⟩))
  · simp [Y, xop, execOp, Instr.makeMap]
  · intro it hit
    obtain rfl : it = _ := by simpa using hit
    exact ⟨_, heap_alloc_new w _, #[], 0, rfl, rfl⟩
  · intro b hb
    obtain rfl : b = _ := by simpa [fps, cellI] using hb
    exact .inl (Nat.le_refl _)
  · simp [fps, cellI]
theorem smapset (enc : κ → Value) {T K E : TypeId} {xm xk xv : Operand} {b : Nat} {m : List (κ × Value)} {k : κ} {v : Value} (hS : StX S w0 w L) (hm : ev n f xm = .map (some b)) (hx : ev n f xk = enc k) (hv : ev n f xv = v) (hT : ∀ w, (underlying T).run P w = .ok (.map K E) w)
    (hk : KeyOk P K enc) [i : AtB L b (MapOk enc m)] [j : SetB L b (MapOk enc (setM m k v)) L'] (h : ∀ w', StX S w0 w' L' → wpL P ops Q n rest f w') : wpL P ops Q n (⟨none, .mapUpdate T xm xk xv, ty, pos, af, none⟩ :: rest) f w := by
  obtain ⟨o', w', hr, hp, ho⟩ := run_mapUpdate (k := k) (v := v) hT hk (hS.is b)
  refine wpL_skip (w' := w') ?_ (h w' (hS.puts hp ho))
  simp [xop, execOp, hm, hx, hv, hr]
theorem yLook (enc : κ → Value) {ρ : Operand → Value} {T K E : TypeId} {xm xk : Operand} {b : Nat} {m : List (κ × Value)} {k : κ} {z v : Value} (hm : ρ xm = .map (some b)) (hx : ρ xk = enc k) (hT : ∀ w, (underlying T).run P w = .ok (.map K E) w) (hk : KeyOk P K enc)
    (hz : ∀ w, (zeroValue E).run P w = .ok z w) (hb : ∃ o, w.heap[b]? = some o ∧ MapOk enc m o) (hv : (getM m k).getD z = v) : Y P ρ (.lookup T xm xk false) ty w v w := by
  subst hv
  simp [Y, xop, execOp, hm, hx, run_lookup (ok := false) hT hk hz hb]
theorem yLookOk (enc : κ → Value) {ρ : Operand → Value} {T K E : TypeId} {xm xk : Operand} {b : Nat} {m : List (κ × Value)} {k : κ} {z v : Value} (hm : ρ xm = .map (some b)) (hx : ρ xk = enc k) (hT : ∀ w, (underlying T).run P w = .ok (.map K E) w) (hk : KeyOk P K enc)
    (hz : ∀ w, (zeroValue E).run P w = .ok z w) (hb : ∃ o, w.heap[b]? = some o ∧ MapOk enc m o) (hv : (getM m k).getD z = v) : Y P ρ (.lookup T xm xk true) ty w (.tuple #[v, .bool (getM m k).isSome]) w := by
  subst hv
  simp [Y, xop, execOp, hm, hx, run_lookup (ok := true) hT hk hz hb]

/-! ### a slice's literal -/
theorem sbslice {T E : TypeId} {len sz : Nat} {ps : List (Nat × Operand)} {z : Value} {r : List Value} {vs : List (Nat × List Value)} (hS : StX S w0 w L) (hT : P.underlying T = some (.slice E)) (hs : ∀ w, (Go.sizeOf E).run P w = .ok sz w) (hbig : Nat.ble (len * sz) 16777216 = true)
    (hz : ∀ w, (zeroValue E).run P w = .ok z w) (hpos : Nat.beq (len * sz) 0 = false) (hv : PartsAre (ev n f) ps vs) (hf : fillL (fun i => some (i * sz, sz)) ((List.range (len * sz)).map (fun i => z.cells[i % z.cells.size]!)) vs = some r)
    (h : ∀ b w', StX S w0 w' (blk b r E :: L) → wpL P ops Q n rest (upd f d (.slice (some ⟨b, 0, none⟩) len len)) w') : wpL P ops Q n (⟨some d, .buildSlice T len ps.toArray, ty, pos, af, none⟩ :: rest) f w := by
  refine sv (v := .slice (some ⟨w.heap.size, 0, none⟩) len len) (w' := w.alloc (.cells r.toArray E (0, 0))) ?_ (h w.heap.size _ (hS.call1 (St.new w _)))
  have hb : ¬ (2 ^ 24 < len * sz) := by rw [Nat.ble_eq] at hbig; omega
  have hp : len * sz ≠ 0 := fun e => by rw [e] at hpos; cases hpos
  have hfl := fill_eq (fun i => some (i * sz, sz)) ((ps.toArray.map fun (i, x) => (i, ev n f x)).toList) ((Array.range (len * sz)).map (fun i => z.cells[i % z.cells.size]!)) r (by
    rw [map_parts, hv, Array.toList_map, Array.toList_range]; exact hf)
  simp only [Y, xop, execOp, Instr.buildSlice, Sem.run_bind, run_underlying hT, Result.andThen_ok, hs, Sem.run_ite, gt_iff_lt, hb, hp, if_false, hz, Sem.run_pure, hfl]
  simp [newRow]
end

/-! ### slices of the call's own, to which more is appended -/
def rowI (v : Value) (E : TypeId) (k n : Nat) (xs : List Value) : Item where
  fp := v.ownBlock.toList
  ok := fun w => w.ownsRow 0 E k v n xs
  loc := fun w w' h hw => by
    refine ⟨hw.1, ?_⟩
    rcases hw.2 with h1 | ⟨g, cap, cur, rfl, h2, h3, r⟩
    · exact .inl h1
    · exact .inr ⟨g, cap, cur, rfl, h2, (h g (by simp [Value.ownBlock])).trans h3, r⟩
  here := fun w hw b hb => by
    rcases hw.2 with ⟨rfl, _⟩ | ⟨g, cap, cur, rfl, _, h3, _⟩
    · simp [Value.ownBlock] at hb
    · obtain rfl : b = g := by simpa [Value.ownBlock] using hb
      exact lt_of_heap h3
class AtR (L : List Item) (v : Value) (E : outParam TypeId) (k n : outParam Nat) (xs : outParam (List Value)) : Prop where
  get : ∀ {w}, (∀ it ∈ L, it.ok w) → w.ownsRow 0 E k v n xs
instance (priority := high) atrHere (v : Value) (E : TypeId) (k n : Nat) (xs : List Value) (L : List Item) : AtR (rowI v E k n xs :: L) v E k n xs := ⟨fun h => h _ (List.mem_cons_self ..)⟩
instance (priority := low) atrThere (it : Item) (L : List Item) (v : Value) (E : TypeId) (k n : Nat) (xs : List Value) [i : AtR L v E k n xs] : AtR (it :: L) v E k n xs := ⟨fun h => i.get fun x hx => h x (List.mem_cons_of_mem _ hx)⟩
/-- Lf it is L with it in the place of the row of v. -/
class SetR (L : List Item) (v : Value) (Lf : outParam (Item → List Item)) : Prop where
  mem : ∀ b, v.ownBlock = some b → b ∈ fps L
  own : ∀ {it : Item} {pr : Nat → Prop} {w w' : World}, (∀ k, k < w.heap.size → some k ≠ v.ownBlock → w'.heap[k]? = w.heap[k]?) → it.ok w' → (it.fp = v.ownBlock.toList ∨ it.fp = [w.heap.size] ∨ it.fp = []) → pr w.heap.size →
    (∀ x ∈ L, x.ok w) → (∀ b ∈ fps L, pr b) → (fps L).Nodup → (∀ x ∈ Lf it, x.ok w') ∧ (∀ b ∈ fps (Lf it), pr b) ∧ (fps (Lf it)).Nodup ∧ (∀ b ∈ fps (Lf it), b ∈ fps L ∨ b ∈ it.fp)
instance (priority := high) setrHere (v : Value) (E : TypeId) (k n : Nat) (xs : List Value) (L : List Item) : SetR (rowI v E k n xs :: L) v (fun it => it :: L) where
  mem := fun b hb => by
    show b ∈ v.ownBlock.toList ++ fps L
    rw [hb]; simp
  own := by
    intro it pr w w' hk hit hfp h0 hok hown hn
    have hn' : (v.ownBlock.toList ++ fps L).Nodup := hn
    obtain ⟨hn1, hn2, hn3⟩ := List.nodup_append.1 hn'
    have hlt : ∀ b ∈ fps L, b < w.heap.size := fun b hb => by
      simp only [fps, List.mem_flatMap] at hb
      obtain ⟨y, hy, hb⟩ := hb
      exact y.here w (hok y (List.mem_cons_of_mem _ hy)) b hb
    refine ⟨?_, ?_, ?_, ?_⟩
    · intro x hx
      rcases List.mem_cons.1 hx with rfl | hx
      · exact hit
      · refine x.loc w w' (fun c hc => hk c (x.here w (hok x (List.mem_cons_of_mem _ hx)) c hc) ?_) (hok x (List.mem_cons_of_mem _ hx))
        intro e
        exact hn3 c (by rw [← e]; simp) c (by simp only [fps, List.mem_flatMap]; exact ⟨x, hx, hc⟩) rfl
    · intro b hb
      rcases List.mem_append.1 (show b ∈ it.fp ++ fps L from hb) with hb | hb
      · rcases hfp with e | e | e
        · rw [e] at hb
          exact hown b (List.mem_append_left _ hb)
        · rw [e] at hb
          obtain rfl : b = _ := by simpa using hb
          exact h0
        · rw [e] at hb; cases hb
      · exact hown b (List.mem_append_right _ hb)
    · show (it.fp ++ fps L).Nodup
      rcases hfp with e | e | e
      · rw [e]; exact hn'
      · rw [e]
        refine List.nodup_append.2 ⟨by simp, hn2, ?_⟩
        intro a ha b hb e
        subst e
        obtain rfl : a = _ := by simpa using ha
        exact absurd (hlt _ hb) (Nat.lt_irrefl _)
      · rw [e]; exact hn2
    · intro b hb
      rcases List.mem_append.1 (show b ∈ it.fp ++ fps L from hb) with hb | hb
      · exact .inr hb
      · exact .inl (List.mem_append_right _ hb)
instance (priority := low) setrThere (it0 : Item) (L : List Item) (v : Value) (Lf : Item → List Item) [i : SetR L v Lf] : SetR (it0 :: L) v (fun it => it0 :: Lf it) where
  mem := fun b hb => List.mem_append_right it0.fp (i.mem b hb)
  own := by
    intro it pr w w' hk hit hfp h0 hok hown hn
    have hn' : (it0.fp ++ fps L).Nodup := hn
    obtain ⟨hn1, hn2, hn3⟩ := List.nodup_append.1 hn'
    obtain ⟨r1, r2, r3, r4⟩ := i.own hk hit hfp h0 (fun x hx => hok x (List.mem_cons_of_mem _ hx)) (fun b hb => hown b (List.mem_append_right _ hb)) hn2
    have hsub : ∀ b ∈ fps (Lf it), b ∈ fps L ∨ b = w.heap.size := by
      intro b hb
      rcases r4 b hb with h | h
      · exact .inl h
      · rcases hfp with e | e | e
        · rw [e] at h
          exact .inl (i.mem b (by simpa using h))
        · rw [e] at h
          exact .inr (by simpa using h)
        · rw [e] at h; cases h
    refine ⟨?_, ?_, ?_, ?_⟩
    · intro x hx
      rcases List.mem_cons.1 hx with rfl | hx
      · refine x.loc w w' (fun c hc => hk c (x.here w (hok x (List.mem_cons_self ..)) c hc) ?_) (hok x (List.mem_cons_self ..))
        intro e
        exact hn3 c hc c (i.mem c e.symm) rfl
      · exact r1 x hx
    · intro b hb
      rcases List.mem_append.1 (show b ∈ it0.fp ++ fps (Lf it) from hb) with hb | hb
      · exact hown b (List.mem_append_left _ hb)
      · exact r2 b hb
    · show (it0.fp ++ fps (Lf it)).Nodup
      refine List.nodup_append.2 ⟨hn1, r3, ?_⟩
      intro a ha b hb e
      subst e
      rcases hsub a hb with h | h
      · exact hn3 a ha a h rfl
      · subst h
        exact absurd (it0.here w (hok it0 (List.mem_cons_self ..)) _ ha) (Nat.lt_irrefl _)
    · intro b hb
      rcases List.mem_append.1 (show b ∈ it0.fp ++ fps (Lf it) from hb) with hb | hb
      · exact .inl (List.mem_append_left _ hb)
      · rcases r4 b hb with h | h
        · exact .inl (List.mem_append_right _ h)
        · exact .inr h
theorem StX.row {S : List Nat} {w0 w : World} {L : List Item} (h : StX S w0 w L) (v : Value) {E : TypeId} {k n : Nat} {xs : List Value} [i : AtR L v E k n xs] : w.ownsRow 0 E k v n xs := i.get h.ok
/-- A slice that is nil, ready to be appended to. -/
theorem StX.nilrow {S : List Nat} {w0 w : World} {L : List Item} (h : StX S w0 w L) (E : TypeId) (k : Nat) : StX S w0 w (rowI (.slice none 0 0) E k 0 [] :: L) := by
  refine ⟨h.extx, ?_, h.own, h.apart⟩
  intro it hit
  rcases List.mem_cons.1 hit with rfl | hi
  · exact World.ownsRow_nil w 0 E k
  · exact h.ok it hi
theorem fps_sub {M L : List Item} (h : M.Sublist L) : (fps M).Sublist (fps L) := by
  induction h with
  | slnil => exact List.Sublist.refl _
  | cons a h ih => exact ih.trans (List.sublist_append_right a.fp _)
  | cons_cons a h ih => exact List.Sublist.append (List.Sublist.refl a.fp) ih
/-- A part of what is owned. -/
theorem StX.sub {S : List Nat} {w0 w : World} {L M : List Item} (h : StX S w0 w L) (hs : M.Sublist L) : StX S w0 w M :=
  have hf : (fps M).Sublist (fps L) := fps_sub hs
  ⟨h.extx, fun it hit => h.ok it (hs.subset hit), fun b hb => h.own b (hf.subset hb), h.apart.sublist hf⟩
class In1 (L : List Item) (it : Item) : Prop where
  sub : [it].Sublist L
instance (priority := high) in1Here (it : Item) (L : List Item) : In1 (it :: L) it := ⟨List.Sublist.cons_cons _ (List.nil_sublist _)⟩
instance (priority := low) in1There (it it0 : Item) (L : List Item) [i : In1 L it] : In1 (it0 :: L) it := ⟨i.sub.cons _⟩
theorem StX.one {S : List Nat} {w0 w : World} {L : List Item} (h : StX S w0 w L) (it : Item) [i : In1 L it] : StX S w0 w [it] := h.sub i.sub

section
variable {P : Program} {S : List Nat} {w0 w : World} {L : List Item}
theorem run_app {t ty e : TypeId} {i : TypeInfo} {z : Value} {size bytes : Nat} (ht : P.underlying t = some (.slice e)) (hi : P.info? e = some i) (hz : i.zero = some z) (hsize : i.size = size) (hby : i.bytes = bytes) (hzs : z.cells.size = size) (hsz : 0 < size)
    {v : Value} {n : Nat} {xs : List Value} (hown : w.ownsRow 0 e size v n xs) {a : Addr} {m c : Nat} {news : List Value} (hl : news.length = m * size) (hnews : ∀ j u, news[j]? = some u → w.cell? (a.add j) = some u) (h1 : ∀ u ∈ news, u.oneCell' = true)
    (h63 : n + m ≤ maxLen) (hbytes : (n + m) * bytes ≤ 140737488355328) :
    ∃ v' w', (Builtin.append_ #[t, t] ty #[v, .slice (some a) m c]).run P w = .ok v' w' ∧ w'.ownsRow 0 e size v' (n + m) (xs ++ news) ∧ w.grownBy w' v.ownBlock ∧ (v'.ownBlock = v.ownBlock ∨ v'.ownBlock = some w.heap.size) ∧ (v' = .slice none 0 0 ↔ v = .slice none 0 0 ∧ m = 0) := by
  obtain ⟨v', w', hr, h2, h3, h4⟩ := run_append_own (P := P) w 0 t ty e i z size bytes ht hi hz hsize hby hzs hsz v n xs hown a m c news hl hnews h1 h63 hbytes (Nat.zero_le _)
  refine ⟨v', w', hr, h2, h3, ?_, h4⟩
  have h63' : ((n + m : Nat) : Int) ≤ 9223372036854775807 := by simp only [maxLen] at h63; omega
  subst hsize hby
  rcases hown.2 with ⟨rfl, rfl⟩ | ⟨g, cap, cur, rfl, hbg, hg, hnc, hcm, hcs, htake⟩
  · by_cases hm : m = 0
    · subst hm
      exact .inl (by rw [h4.2 ⟨rfl, rfl⟩])
    · have hr' := run_append_nil (P := P) w t ty e i z ht hi hz a m c news hl hnews (by omega) (by omega) (by have hb := hbytes; simp only [Nat.zero_add] at hb; omega)
      rw [hr'] at hr
      injection hr with e1 e2
      exact .inr (by rw [← e1]; rfl)
  · by_cases hroom : n + m ≤ cap
    · have hfit : n * i.size + news.length ≤ cur.size := by rw [hl, hcs, ← Nat.add_mul]; exact Nat.mul_le_mul_right _ hroom
      have hr' := run_append_room (P := P) w t ty e i ht hi g n cap cur hg a m c news hl hnews h1 hroom hfit
      rw [hr'] at hr
      injection hr with e1 e2
      exact .inl (by rw [← e1]; rfl)
    · have holds : ∀ j u, xs[j]? = some u → w.cell? ((⟨g, 0, none⟩ : Addr).add j) = some u := hown.cells (g := g) rfl
      have hr' := run_append_grow (P := P) w t ty e i z ht hi hz ⟨g, 0, none⟩ n cap xs hown.1 holds a m c news hl hnews (by omega) h63' (growslice_fits (by omega) hbytes)
      rw [hr'] at hr
      injection hr with e1 e2
      exact .inr (by rw [← e1]; rfl)
theorem StX.app {w' : World} {v v' : Value} {E : TypeId} {k n : Nat} {xs : List Value} {Lf : Item → List Item} (h : StX S w0 w L) [j : SetR L v Lf] (hr : w'.ownsRow 0 E k v' n xs) (hg : w.grownBy w' v.ownBlock) (hb : v'.ownBlock = v.ownBlock ∨ v'.ownBlock = some w.heap.size) :
    StX S w0 w' (Lf (rowI v' E k n xs)) := by
  obtain ⟨r1, r2, r3, _⟩ := j.own (it := rowI v' E k n xs) (pr := fun b => w0.heap.size ≤ b ∨ b ∈ S) hg.block hr (by
    rcases hb with e | e
    · exact .inl (by simp [rowI, e])
    · exact .inr (.inl (by simp [rowI, e]))) (.inl h.extx.size) h.ok h.own h.apart
  refine ⟨⟨hg.os.trans h.extx.os, hg.tape.trans h.extx.tape, hg.output.trans h.extx.output, Nat.le_trans h.extx.size hg.size, fun i hi hn => ?_⟩, r1, r2, r3⟩
  refine (hg.block i (Nat.lt_of_lt_of_le hi h.extx.size) ?_).trans (h.extx.block i hi hn)
  intro e
  rcases h.own i (j.mem i e.symm) with h1 | h1
  · omega
  · exact hn h1
end
section
variable {P : Program} {ops : Array Oper} {Q : Exit → Act → World → Prop} {n : Nat} {f : Fr} {S : List Nat} {w0 w w' : World} {L L' : List Item} {rest : List Oper} {d : Nat} {ty : TypeId} {pos : String} {af : Array Edge}
/-- append(s, x..), s a slice of the call's own. -/
theorem sapp {t e : TypeId} {i : TypeInfo} {z : Value} {size bytes : Nat} {xs' xx : Operand} {v : Value} {b o m c l : Nat} {xs news : List Value} {Lf : Item → List Item} (hS : StX S w0 w L) (hv : ev n f xs' = v) (hx : ev n f xx = .slice (some ⟨b, o, none⟩) m c)
    (ht : P.underlying t = some (.slice e)) (hi : P.info? e = some i) (hz : i.zero = some z) (hsize : i.size = size) (hby : i.bytes = bytes) (hzs : z.cells.size = size) (hsz : 0 < size)
    [r : AtR L v e size l xs] [j : SetR L v Lf] (hnews : Cells w b o news) (hl : news.length = m * size) (h1 : news.all (·.oneCell') = true) (h63 : l + m ≤ 9223372036854775807) (hbytes : (l + m) * bytes ≤ 140737488355328)
    (h : ∀ v' w', StX S w0 w' (Lf (rowI v' e size (l + m) (xs ++ news))) → wpL P ops Q n rest (upd f d v') w') : wpL P ops Q n (⟨some d, .call ⟨.builtin .append, #[xs', xx], #[t, t]⟩, ty, pos, af, none⟩ :: rest) f w := by
  obtain ⟨v', w', hr, h2, h3, h4, _⟩ := run_app (P := P) (ty := ty) (c := c) ht hi hz hsize hby hzs hsz (hS.row v) (a := ⟨b, o, none⟩) hl (fun j u hu => by rw [addr_add]; exact hnews j u hu) (fun u hu => List.all_eq_true.1 h1 u hu) (by simp only [maxLen]; omega) hbytes
  refine sv (v := v') (w' := w') ?_ (h v' w' (hS.app h2 h3 h4))
  simp [Y, xop, execOp, resolve, invoke, builtin, hv, hx, hr]
end
end Bx
