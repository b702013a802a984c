/- The memory of a walk: what a call owns, as a list of parts that lie apart, and that nothing older has changed. -/
import Derived.Test.YtpgmehignepidaaLib1
import Derived.Laws.Tables
set_option linter.all false
namespace Bx
open Go Go.RowKit

/-- Nothing that was there has changed. -/
def Ext (w w' : World) : Prop := Below w.heap.size w w'
theorem Ext.refl (w : World) : Ext w w := Below.refl _ _
theorem Ext.trans {a b c : World} (h : Ext a b) (k : Ext b c) : Ext a c := Below.trans h (k.mono h.size)
theorem Ext.heap {w w' : World} (h : Ext w w') {b : Nat} (hb : b < w.heap.size) : w'.heap[b]? = w.heap[b]? := h.block b hb
theorem lt_of_heap {w : World} {b : Nat} {o : Obj} (h : w.heap[b]? = some o) : b < w.heap.size := by
  rcases Nat.lt_or_ge b w.heap.size with h' | h'
  · exact h'
  · simp [Array.getElem?_eq_none h'] at h
theorem Ext.get {w w' : World} (h : Ext w w') {b : Nat} {o : Obj} (hb : w.heap[b]? = some o) : w'.heap[b]? = some o := (h.heap (lt_of_heap hb)).trans hb
theorem Ext.cell {w w' : World} (h : Ext w w') {a : Addr} {v : Value} (hc : w.cell? a = some v) : w'.cell? a = some v :=
  (Below.cell h (World.block_lt_of_cell? w a hc)).trans hc

/-- A part of memory: its blocks, and what holds of it. -/
structure Item where
  fp : List Nat
  ok : World → Prop
  loc : ∀ w w', (∀ b ∈ fp, w'.heap[b]? = w.heap[b]?) → ok w → ok w'
  here : ∀ w, ok w → ∀ b ∈ fp, b < w.heap.size

/-- One block, and what holds of what lies there. -/
def cellI (b : Nat) (p : Obj → Prop) : Item where
  fp := [b]
  ok := fun w => ∃ o, w.heap[b]? = some o ∧ p o
  loc := fun _ _ h hw => by
    obtain ⟨o, ho, hp⟩ := hw
    exact ⟨o, (h b (by simp)).trans ho, hp⟩
  here := fun _ hw b' hb' => by
    obtain rfl : b' = b := by simpa using hb'
    obtain ⟨o, ho, _⟩ := hw
    exact lt_of_heap ho
abbrev obj (b : Nat) (o : Obj) : Item := cellI b (Eq o)
/-- A block of cells of the call's own. -/
abbrev blk (b : Nat) (cs : List Value) (t : TypeId) : Item := obj b (.cells cs.toArray t (0, 0))

def fps (L : List Item) : List Nat := L.flatMap Item.fp

/-- Nothing that was there has changed, but for the blocks S. -/
structure ExtX (S : List Nat) (w w' : World) : Prop where
  os : w'.os = w.os
  tape : w'.tape = w.tape
  output : w'.output = w.output
  size : w.heap.size ≤ w'.heap.size
  block : ∀ k, k < w.heap.size → k ∉ S → w'.heap[k]? = w.heap[k]?
theorem ExtX.ext {w w' : World} (h : ExtX [] w w') : Ext w w' := ⟨h.os, h.tape, h.output, h.size, fun k hk => h.block k hk (by simp)⟩
theorem Ext.extX {S : List Nat} {w w' : World} (h : Ext w w') : ExtX S w w' := ⟨h.os, h.tape, h.output, h.size, fun k hk _ => h.block k hk⟩
theorem ExtX.trans {S : List Nat} {a b c : World} (h : ExtX S a b) (k : Ext b c) : ExtX S a c :=
  ⟨k.os.trans h.os, k.tape.trans h.tape, k.output.trans h.output, Nat.le_trans h.size k.size, fun i hi hn => (k.block i (Nat.lt_of_lt_of_le hi h.size)).trans (h.block i hi hn)⟩
theorem ExtX.get {S : List Nat} {w w' : World} (h : ExtX S w w') {b : Nat} {o : Obj} (hb : w.heap[b]? = some o) (hn : b ∉ S) : w'.heap[b]? = some o := (h.block b (lt_of_heap hb) hn).trans hb
/-- What is older than all of S has not changed at all. -/
theorem ExtX.old {S : List Nat} {w00 w w' : World} (h : ExtX S w w') (e : Ext w00 w) (hS : ∀ b ∈ S, w00.heap.size ≤ b) : Ext w00 w' :=
  ⟨h.os.trans e.os, h.tape.trans e.tape, h.output.trans e.output, Nat.le_trans e.size h.size, fun k hk => (h.block k (Nat.lt_of_lt_of_le hk e.size) (fun hm => by have := hS k hm; omega)).trans (e.block k hk)⟩

/-- From w0 on nothing older has changed but for the blocks S, and the parts L are the call's own. -/
structure StX (S : List Nat) (w0 w : World) (L : List Item) : Prop where
  extx : ExtX S w0 w
  ok : ∀ it ∈ L, it.ok w
  own : ∀ b ∈ fps L, w0.heap.size ≤ b ∨ b ∈ S
  apart : (fps L).Nodup
abbrev St (w0 w : World) (L : List Item) : Prop := StX [] w0 w L
theorem StX.ext {w0 w : World} {L : List Item} (h : StX [] w0 w L) : Ext w0 w := h.extx.ext
theorem StX.owned {w0 w : World} {L : List Item} (h : StX [] w0 w L) {b : Nat} (hb : b ∈ fps L) : w0.heap.size ≤ b := (h.own b hb).resolve_right (by simp)

theorem St.start (w : World) : St w w [] := ⟨(Ext.refl w).extX, by simp, by simp [fps], by simp [fps]⟩
theorem StX.start {w : World} {S : List Nat} {L : List Item} (hok : ∀ it ∈ L, it.ok w) (hS : ∀ b ∈ fps L, b ∈ S) (hn : (fps L).Nodup) : StX S w w L := ⟨(Ext.refl w).extX, hok, fun b hb => .inr (hS b hb), hn⟩

theorem StX.lt {S : List Nat} {w0 w : World} {L : List Item} (h : StX S w0 w L) {b : Nat} (hb : b ∈ fps L) : b < w.heap.size := by
  simp only [fps, List.mem_flatMap] at hb
  obtain ⟨it, hit, hb⟩ := hb
  exact it.here w (h.ok it hit) b hb

/-- A new part, in blocks that are new. -/
theorem StX.push {S : List Nat} {w0 w w' : World} {L : List Item} (h : StX S w0 w L) (e : Ext w w') (M : List Item) (hM : St w w' M) : StX S w0 w' (M ++ L) := by
  refine ⟨h.extx.trans e, ?_, ?_, ?_⟩
  · intro it hit
    rcases List.mem_append.1 hit with hi | hi
    · exact hM.ok it hi
    · refine it.loc w w' (fun b hb => e.heap (h.lt (by simp only [fps, List.mem_flatMap]; exact ⟨it, hi, hb⟩))) (h.ok it hi)
  · intro b hb
    simp only [fps, List.flatMap_append, List.mem_append] at hb
    rcases hb with hb | hb
    · exact .inl (Nat.le_trans h.extx.size (hM.owned hb))
    · exact h.own b hb
  · simp only [fps, List.flatMap_append]
    refine List.nodup_append.2 ⟨hM.apart, h.apart, ?_⟩
    intro a ha b hb e
    subst e
    have h1 := hM.owned ha
    have h2 := h.lt hb
    omega

theorem StX.call {S : List Nat} {w0 w w' : World} {L M : List Item} (h : StX S w0 w L) (hM : St w w' M) : StX S w0 w' (M ++ L) := h.push hM.ext M hM
theorem StX.step {S : List Nat} {w0 w w' : World} {L : List Item} (h : StX S w0 w L) (e : Ext w w') : StX S w0 w' L := h.push e [] ⟨e.extX, by simp, by simp [fps], by simp [fps]⟩
theorem StX.call1 {S : List Nat} {w0 w w' : World} {L : List Item} {it : Item} (h : StX S w0 w L) (hM : St w w' [it]) : StX S w0 w' (it :: L) := h.push hM.ext [it] hM

theorem ext_alloc (w : World) (o : Obj) : Ext w (w.alloc o) := (Below.refl _ _).alloc (Nat.le_refl _) o
theorem ext_drew (w : World) : Ext w { w with drawn := w.drawn + 1 } := ⟨rfl, rfl, rfl, Nat.le_refl _, fun _ _ => rfl⟩

theorem heap_alloc_new (w : World) (o : Obj) : (w.alloc o).heap[w.heap.size]? = some o := by
  show (w.heap.push o)[w.heap.size]? = some o
  simp

theorem St.new (w : World) (o : Obj) : St w (w.alloc o) [obj w.heap.size o] := by
  refine ⟨(ext_alloc w o).extX, ?_, ?_, ?_⟩
  · intro it hit
    obtain rfl : it = _ := by simpa using hit
    exact ⟨o, heap_alloc_new w o, rfl⟩
  · intro b hb
    obtain rfl : b = _ := by simpa [fps, obj, cellI] using hb
    exact .inl (Nat.le_refl _)
  · simp [fps, obj, cellI]

theorem Ext.of (w w' : World) (h1 : w'.os = w.os) (h2 : w'.tape = w.tape) (h3 : w'.output = w.output) (h4 : w.heap.size ≤ w'.heap.size) (h5 : ∀ k, k < w.heap.size → w'.heap[k]? = w.heap[k]?) : Ext w w' := ⟨h1, h2, h3, h4, h5⟩

/-! ### finding a part -/
class AtB (L : List Item) (b : Nat) (p : outParam (Obj → Prop)) : Prop where
  get : ∀ {w}, (∀ it ∈ L, it.ok w) → ∃ o, w.heap[b]? = some o ∧ p o
instance (priority := high) atHere (b : Nat) (p : Obj → Prop) (L : List Item) : AtB (cellI b p :: L) b p := ⟨fun h => h _ (List.mem_cons_self ..)⟩
instance (priority := low) atThere (it : Item) (L : List Item) (b : Nat) (p : Obj → Prop) [i : AtB L b p] : AtB (it :: L) b p := ⟨fun h => i.get fun x hx => h x (List.mem_cons_of_mem _ hx)⟩

theorem StX.at {S : List Nat} {w0 w : World} {L : List Item} (h : StX S w0 w L) (b : Nat) {o : Obj} [i : AtB L b (Eq o)] : w.heap[b]? = some o := by
  obtain ⟨o', h1, h2⟩ := i.get h.ok
  rw [h1, h2]
theorem StX.is {S : List Nat} {w0 w : World} {L : List Item} (h : StX S w0 w L) (b : Nat) {p : Obj → Prop} [i : AtB L b p] : ∃ o, w.heap[b]? = some o ∧ p o := i.get h.ok

/-- The object at b is now o; nothing else that was there has changed. -/
structure Put (b : Nat) (o : Obj) (w w' : World) : Prop where
  os : w'.os = w.os
  tape : w'.tape = w.tape
  output : w'.output = w.output
  size : w.heap.size ≤ w'.heap.size
  here : w'.heap[b]? = some o
  other : ∀ k, k < w.heap.size → k ≠ b → w'.heap[k]? = w.heap[k]?

theorem ExtX.put {S : List Nat} {w0 w w' : World} {b : Nat} {o : Obj} (h : ExtX S w0 w) (hp : Put b o w w') (hb : w0.heap.size ≤ b ∨ b ∈ S) : ExtX S w0 w' := by
  refine ⟨hp.os.trans h.os, hp.tape.trans h.tape, hp.output.trans h.output, Nat.le_trans h.size hp.size, fun k hk hn => (hp.other k (Nat.lt_of_lt_of_le hk h.size) ?_).trans (h.block k hk hn)⟩
  rintro rfl
  rcases hb with hb | hb
  · omega
  · exact hn hb

/-- L' is L with o in the place of what was at b. -/
class SetB (L : List Item) (b : Nat) (p : Obj → Prop) (L' : outParam (List Item)) : Prop where
  mem : b ∈ fps L
  same : fps L' = fps L
  set : ∀ {w w' : World}, (∀ k, k < w.heap.size → k ≠ b → w'.heap[k]? = w.heap[k]?) → (∃ o, w'.heap[b]? = some o ∧ p o) → (∀ it ∈ L, it.ok w) → (fps L).Nodup → ∀ it ∈ L', it.ok w'
instance (priority := high) setHere (b : Nat) (p p' : Obj → Prop) (L : List Item) : SetB (cellI b p :: L) b p' (cellI b p' :: L) where
  mem := List.mem_cons_self ..
  same := rfl
  set := by
    intro w w' hk hb hok hn it hit
    rcases List.mem_cons.1 hit with rfl | hi
    · exact hb
    · refine it.loc w w' (fun c hc => hk c (it.here w (hok it (List.mem_cons_of_mem _ hi)) c hc) ?_) (hok it (List.mem_cons_of_mem _ hi))
      rintro rfl
      have hn' : (c :: fps L).Nodup := hn
      exact (List.nodup_cons.1 hn').1 (by simp only [fps, List.mem_flatMap]; exact ⟨it, hi, hc⟩)
instance (priority := low) setThere (it : Item) (L : List Item) (b : Nat) (p' : Obj → Prop) (L' : List Item) [i : SetB L b p' L'] : SetB (it :: L) b p' (it :: L') where
  mem := List.mem_append_right it.fp i.mem
  same := by show it.fp ++ fps L' = it.fp ++ fps L; rw [i.same]
  set := by
    intro w w' hk hb hok hn x hx
    have hn' : (it.fp ++ fps L).Nodup := hn
    obtain ⟨_, hn2, hn3⟩ := List.nodup_append.1 hn'
    rcases List.mem_cons.1 hx with rfl | hx
    · refine x.loc w w' (fun c hc => hk c (x.here w (hok x (List.mem_cons_self ..)) c hc) ?_) (hok x (List.mem_cons_self ..))
      rintro rfl
      exact hn3 c hc c i.mem rfl
    · exact i.set hk hb (fun y hy => hok y (List.mem_cons_of_mem _ hy)) hn2 x hx

theorem StX.puts {S : List Nat} {w0 w w' : World} {L L' : List Item} {b : Nat} {o : Obj} {p : Obj → Prop} (h : StX S w0 w L) (hp : Put b o w w') (hpo : p o) [i : SetB L b p L'] : StX S w0 w' L' := by
  refine ⟨h.extx.put hp (h.own b i.mem), i.set hp.other ⟨o, hp.here, hpo⟩ h.ok h.apart, ?_, ?_⟩
  · rw [i.same]; exact h.own
  · rw [i.same]; exact h.apart
theorem StX.put {S : List Nat} {w0 w w' : World} {L L' : List Item} {b : Nat} {o : Obj} (h : StX S w0 w L) (hp : Put b o w w') [i : SetB L b (Eq o) L'] : StX S w0 w' L' := h.puts hp rfl
/-- What a call that may change the block b leaves. -/
theorem StX.isPut {w0 w : World} {L : List Item} {b : Nat} {o : Obj} (h : StX [b] w0 w L) [i : AtB L b (Eq o)] : Put b o w0 w :=
  ⟨h.extx.os, h.extx.tape, h.extx.output, h.extx.size, h.at b, fun k hk hn => h.extx.block k hk (by simpa using hn)⟩
theorem StX.start1 {w : World} {b : Nat} {p : Obj → Prop} (h : ∃ o, w.heap[b]? = some o ∧ p o) : StX [b] w w [cellI b p] :=
  .start (fun it hit => by obtain rfl : it = _ := by simpa using hit
                           exact h) (fun c hc => by simpa [fps, cellI] using hc) (by simp [fps, cellI])

/-! ### stores -/
def splice (cs : List Value) (o : Nat) (vs : List Value) : List Value := cs.take o ++ vs ++ cs.drop (o + vs.length)

section
variable {P : Program}
theorem put_setRow {w : World} {b : Nat} {cs cs' : Array Value} {t : TypeId} {fr : Nat × Nat} (hg : w.heap[b]? = some (.cells cs t fr)) : Put b (.cells cs' t fr) w (w.setRow b cs') := by
  refine ⟨rfl, rfl, rfl, by simp [World.setRow], setRow_heap w b cs cs' t fr hg, ?_⟩
  intro k _ hk
  simp only [World.setRow, Array.getElem?_modify]
  rw [if_neg (fun e => hk e.symm)]

theorem Put.trans {b : Nat} {o o' : Obj} {w w' w'' : World} (h : Put b o w w') (k : Put b o' w' w'') : Put b o' w w'' :=
  ⟨k.os.trans h.os, k.tape.trans h.tape, k.output.trans h.output, Nat.le_trans h.size k.size, k.here, fun i hi hb => (k.other i (Nat.lt_of_lt_of_le hi h.size) hb).trans (h.other i hi hb)⟩

theorem addr_add (b o i : Nat) : (⟨b, o, none⟩ : Addr).add i = ⟨b, o + i, none⟩ := by
  unfold Addr.add
  split <;> simp_all

theorem take_mid {α : Type} (A : List α) (v : α) (B : List α) (k : Nat) (h : A.length = k) : (A ++ v :: B).take (k + 1) = A ++ [v] := by
  subst h
  rw [List.take_append, List.take_of_length_le (by omega), show A.length + 1 - A.length = 1 by omega]
  simp
theorem drop_mid {α : Type} (A : List α) (v : α) (B : List α) (k m : Nat) (h : A.length = k) : (A ++ v :: B).drop (k + 1 + m) = B.drop m := by
  subst h
  rw [List.drop_append, List.drop_eq_nil_of_le (by omega), show A.length + 1 + m - A.length = m + 1 by omega]
  simp
theorem run_storeAt {b : Nat} {t : TypeId} : ∀ (vs : List Value) (o i : Nat) (cs : List Value) (w : World), w.heap[b]? = some (.cells cs.toArray t (0, 0)) → o + i + vs.length ≤ cs.length → (∀ v ∈ vs, v.oneCell' = true) →
    ∃ w', (storeCells ⟨b, o, none⟩ vs i).run P w = .ok () w' ∧ Put b (.cells (splice cs (o + i) vs).toArray t (0, 0)) w w'
  | [], o, i, cs, w, hg, hl, _ => by
    refine ⟨w, by simp [storeCells], rfl, rfl, rfl, Nat.le_refl _, ?_, fun _ _ _ => rfl⟩
    rw [hg]
    simp [splice]
  | v :: rest, o, i, cs, w, hg, hl, h1 => by
    simp only [List.length_cons] at hl
    have hi : o + i < cs.length := by omega
    have hcell : w.cell? ⟨b, o + i, none⟩ = some cs[o + i] := by simp [World.cell?, hg, hi]
    have hfro : w.frozen? ⟨b, o + i, none⟩ = false := by simp [World.frozen?, hg]
    have hst : (store ((⟨b, o, none⟩ : Addr).add i) v).run P w = .ok () (w.setRow b (cs.set (o + i) v).toArray) := by
      rw [addr_add, run_store P w _ v _ (h1 v (by simp)), hcell]
      simp [hfro, setCell_eq_setRow w b (o + i) cs.toArray t (0, 0) v hg]
    have hp : Put b (.cells (cs.set (o + i) v).toArray t (0, 0)) w (w.setRow b (cs.set (o + i) v).toArray) := put_setRow hg
    obtain ⟨w', hr, hq⟩ := run_storeAt rest o (i + 1) (cs.set (o + i) v) (w.setRow b (cs.set (o + i) v).toArray) hp.here (by simp; omega) (fun x hx => h1 x (by simp [hx]))
    refine ⟨w', by simp only [storeCells, Sem.run_bind, hst, Result.andThen_ok, hr], ?_⟩
    have hq' := hp.trans hq
    have : splice (cs.set (o + i) v) (o + (i + 1)) rest = splice cs (o + i) (v :: rest) := by
      have e : cs.set (o + i) v = cs.take (o + i) ++ v :: cs.drop (o + i + 1) := by rw [List.set_eq_take_append_cons_drop, if_pos hi]
      have e1 : (cs.take (o + i)).length = o + i := by simp; omega
      unfold splice
      rw [e, show o + (i + 1) = o + i + 1 by omega, take_mid _ _ _ _ e1, drop_mid _ _ _ _ _ e1, List.drop_drop, List.length_cons]
      simp only [List.append_assoc, List.cons_append, List.nil_append]
      rw [show o + i + 1 + rest.length = o + i + (rest.length + 1) by omega]
    rw [this] at hq'
    exact hq'
end
end Bx
