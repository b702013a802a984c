/- Statements that draw their order and end in a store: the head by one walk of its text, the tail behind it. -/
import Derived.Test.YtpgmehignepidaaLib5
import Derived.StillTail
set_option linter.all false
namespace Bx
open Go Go.RowKit

section
variable {P : Program} {ops : Array Oper} {Q : Exit → Act → World → Prop} {n : Nat}
def headOf (ops : Array Oper) (n : Nat) : Array Oper := (ops.toList.take n).toArray
theorem headOf_get {i : Nat} (h : i < n) : (headOf ops n)[i]? = ops[i]? := by
  simp [headOf, h]
/-- Edges and guards of the head lead back. -/
def backB (ops : Array Oper) (n : Nat) : Bool :=
  (List.range n).all fun i => match ops[i]? with
    | some o => (o.after.all fun e => !Region.binds .any e || decide (e.on < i)) && (match o.guard with | some (j, _) => decide (j < i) | none => true)
    | none => false
theorem backB_spec (h : backB ops n = true) {i : Nat} (hi : i < n) : ∃ o, ops[i]? = some o ∧ (∀ e ∈ o.after, Region.binds .any e = true → e.on < i) ∧ ∀ j b, o.guard = some (j, b) → j < i := by
  have h1 := List.all_eq_true.1 h i (List.mem_range.2 hi)
  cases ho : ops[i]? with
  | none => simp [ho] at h1
  | some o =>
    simp only [ho, Bool.and_eq_true, Array.all_eq_true_iff_forall_mem, Bool.or_eq_true, Bool.not_eq_true', decide_eq_true_eq] at h1
    refine ⟨o, rfl, fun e he hb => (h1.1 e he).resolve_left (by simp [hb]), fun j b hg => ?_⟩
    have h2 := h1.2
    rw [hg] at h2
    simpa using h2
theorem getD_app_lt {a b : Array Bool} {i : Nat} {d : Bool} (h : i < a.size) : (a ++ b).getD i d = a.getD i d := by
  simp only [Array.getD_eq_getD_getElem?, Array.getElem?_append, h, if_true]
theorem set_app {a b : Array Bool} {i : Nat} (h : i < a.size) : (a ++ b).setIfInBounds i true = a.setIfInBounds i true ++ b := by
  apply Array.ext_getElem?
  intro t
  simp only [Array.getElem?_setIfInBounds, Array.getElem?_append, Array.size_append, Array.size_setIfInBounds]
  by_cases e : i = t
  · subst e; simp [h, show i < a.size + b.size by omega]
  · simp [e]
theorem wpAny_seq {md : Region.Mode} : ∀ (l : List Oper) (k : Nat) (listed : Array Bool) (a : Act) (w : World) (x : Nat), (∀ j, l[j]? = ops[k + j]?) →
    Region.seqB md ops l.length k listed = true → wpList P ops Q l a w → wpAny P md ops Q (x + l.length) listed a w
  | [], k, listed, a, w, x, _, hB, h => by
    have h0 : Region.ready md ops listed = [] := by simpa [Region.seqB] using hB
    cases x with
    | zero => exact ⟨h0, h⟩
    | succ x => exact ⟨fun _ => h, fun i hi => by rw [h0] at hi; cases hi⟩
  | o :: l, k, listed, a, w, x, hl, hB, h => by
    have h0 : ops[k]? = some o := by simpa using (hl 0).symm
    simp only [List.length_cons, Region.seqB, Bool.and_eq_true, decide_eq_true_eq] at hB
    show wpAny P md ops Q ((x + l.length) + 1) listed a w
    refine ⟨fun h1 => (by rw [hB.1] at h1; cases h1), fun i hi => ?_⟩
    rw [hB.1] at hi
    have hik : i = k := by simpa using hi
    subst hik
    have hw : wpOp P ops Q i (wpList P ops Q l) a w := by unfold wpOp; simp only [h0]; exact h
    exact wpOp_mono (fun a' w' h' => wpAny_seq l (i + 1) _ a' w' x (fun j => by have := hl (j + 1); simpa [Nat.add_assoc, Nat.add_comm 1 j] using this) hB.2 h') hw
/-- The post of the head: behind it the tail. -/
def headPost (P : Program) (ops : Array Oper) (Q : Exit → Act → World → Prop) (n : Nat) : Exit → Act → World → Prop
  | .normal, a, w => wpList P ops Q (ops.toList.drop n) a w
  | e, a, w => Q e a w
theorem wpOp_head (hb : backB ops n = true) {i : Nat} (hi : i < n) {K K' : Act → World → Prop} {a : Act} {w : World} (hK : ∀ a w, K a w → K' a w)
    (h : wpOp P (headOf ops n) (headPost P ops Q n) i K a w) : wpOp P ops Q i K' a w := by
  obtain ⟨o, ho, _, hg⟩ := backB_spec hb hi
  have hh : (headOf ops n)[i]? = some o := (headOf_get hi).trans ho
  unfold wpOp at h ⊢
  simp only [ho, hh] at h ⊢
  have hw : Region.wanted o (yielded (headOf ops n) a.tmps) = Region.wanted o (yielded ops a.tmps) := by
    unfold Region.wanted
    cases hgd : o.guard with
    | none => rfl
    | some p =>
      obtain ⟨j, b⟩ := p
      have hj := hg j b hgd
      simp only [yielded, headOf_get (ops := ops) (n := n) (show j < n by omega)]
  rw [hw] at h
  split
  · rename_i hwd
    rw [if_pos hwd] at h
    rcases h with h | ⟨h1, h2⟩
    · left
      unfold Oper.wp at h ⊢
      generalize (execOp a.eval o).run P w = r at h ⊢
      cases r with
      | ok x w' =>
        cases x <;> simp only [Oper.upon] at h ⊢ <;> first
          | exact hK _ _ h
          | exact h
          | (refine Calls.mono h ?_
             intro e w'' he
             cases e <;> first | exact hK _ _ he | exact he)
          | exact h.mono fun v w'' hv => hK _ _ hv
      | halt x w' => cases x <;> exact h
    · exact .inr ⟨h1, h2⟩
  · rename_i hwd
    rw [if_neg hwd] at h
    exact hK _ _ h
theorem wpAny_head (hb : backB ops n = true) (hs : Region.sinkB .any ops n = true) (hc : Region.chainB .any ops n = true) (hn : n < ops.size)
    (hq : Region.seqB .any ops (ops.size - n) n (Array.replicate n true ++ Array.replicate (ops.size - n) false) = true) :
    ∀ (f : Nat) (lh : Array Bool) (a : Act) (w : World), lh.size = n → HeadInv .any ops n (lh ++ Array.replicate (ops.size - n) false) →
      wpAny P .any (headOf ops n) (headPost P ops Q n) f lh a w → wpAny P .any ops Q (f + (ops.size - n)) (lh ++ Array.replicate (ops.size - n) false) a w := by
  have hsz : (headOf ops n).size = n := by simp [headOf]; omega
  -- nothing ready: all of the head is listed
  have all : ∀ lh : Array Bool, lh.size = n → Region.ready .any (headOf ops n) lh = [] → lh = Array.replicate n true := by
    intro lh hl hr
    have key : ∀ i, i < n → lh.getD i false = true := by
      intro i
      induction i using Nat.strongRecOn with
      | _ i ih =>
        intro hi
        cases hx : lh.getD i false with
        | true => rfl
        | false =>
          obtain ⟨o, ho, hedge, _⟩ := backB_spec hb hi
          have : i ∈ Region.ready .any (headOf ops n) lh := mem_ready.2 ⟨getD_in (by omega) hx, o, (headOf_get hi).trans ho, fun e he hbe => ih e.on (hedge e he hbe) (by have := hedge e he hbe; omega)⟩
          rw [hr] at this
          cases this
    apply Array.ext
    · simp [hl]
    · intro i h1 h2
      have := key i (by omega)
      simp [Array.getD, h1] at this
      simp [this]
  have tail : ∀ (lh : Array Bool) (a : Act) (w : World) (x : Nat), lh = Array.replicate n true → headPost P ops Q n .normal a w → wpAny P .any ops Q (x + (ops.size - n)) (lh ++ Array.replicate (ops.size - n) false) a w := by
    rintro lh a w x rfl h
    have := wpAny_seq (P := P) (Q := Q) (md := .any) (ops := ops) (ops.toList.drop n) n (Array.replicate n true ++ Array.replicate (ops.size - n) false) a w x (fun j => by simp) (by simpa using hq) h
    simpa using this
  intro f
  induction f with
  | zero => exact fun lh a w hl _ h => tail lh a w 0 (all lh hl h.1) h.2
  | succ f ih =>
    intro lh a w hl inv h
    by_cases hr : Region.ready .any (headOf ops n) lh = []
    · exact tail lh a w (f + 1) (all lh hl hr) (h.1 hr)
    · -- something of the head is not listed
      obtain ⟨i0, hi0⟩ := List.exists_mem_of_ne_nil _ hr
      obtain ⟨hu0, o0, ho0, he0⟩ := mem_ready.1 hi0
      have hi0n : i0 < n := by have := (Array.getElem?_eq_some_iff.1 ho0).1; omega
      have hun : (lh ++ Array.replicate (ops.size - n) false).getD i0 true = false := by rw [getD_app_lt (by omega)]; exact hu0
      have lift : ∀ i, i < n → (i ∈ Region.ready .any ops (lh ++ Array.replicate (ops.size - n) false) ↔ i ∈ Region.ready .any (headOf ops n) lh) := by
        intro i hi
        obtain ⟨o, ho, hedge, _⟩ := backB_spec hb hi
        rw [mem_ready, mem_ready, getD_app_lt (by omega), headOf_get hi]
        constructor
        · rintro ⟨h1, o', ho', h2⟩
          refine ⟨h1, o', ho', fun e he hbe => ?_⟩
          rw [ho] at ho'
          obtain rfl := Option.some.inj ho'
          have := h2 e he hbe
          rwa [getD_app_lt (by have := hedge e he hbe; omega)] at this
        · rintro ⟨h1, o', ho', h2⟩
          refine ⟨h1, o', ho', fun e he hbe => ?_⟩
          rw [ho] at ho'
          obtain rfl := Option.some.inj ho'
          rw [getD_app_lt (by have := hedge e he hbe; omega)]
          exact h2 e he hbe
      have : f + 1 + (ops.size - n) = (f + (ops.size - n)) + 1 := by omega
      rw [this]
      refine ⟨fun h0 => ?_, fun i hi => ?_⟩
      · have := (lift i0 hi0n).2 hi0
        rw [h0] at this
        cases this
      · have hin : i < n := by
          rcases Nat.lt_or_ge i n with h | h
          · exact h
          · exact absurd hi (tail_waits hs hc hn inv _ i0 rfl hi0n hun i h)
        have hset : (lh ++ Array.replicate (ops.size - n) false).setIfInBounds i true = lh.setIfInBounds i true ++ Array.replicate (ops.size - n) false := set_app (by omega)
        refine wpOp_head hb hin (fun a' w' h' => ?_) (h.2 i ((lift i hin).1 hi))
        rw [hset]
        exact ih _ a' w' (by simpa using hl) (hset ▸ inv.set hi hin) h'
def tailB (ops : Array Oper) (n : Nat) : Bool :=
  backB ops n && Region.sinkB .any ops n && Region.chainB .any ops n && decide (n < ops.size) && Region.seqB .any ops (ops.size - n) n (Array.replicate n true ++ Array.replicate (ops.size - n) false) && Region.lexB .any (headOf ops n)
theorem wp_region_tail {C : World → Prop} {id : Nat} {a : Act} {w : World} (hm : P.follows .mixedOrders = true) (n : Nat) (hB : tailB ops n = true) (hC : C { w with drawn := w.drawn + 1 })
    (h : wpQuiet P (headOf ops n) C (fun a' => ∀ w', C w' → wpList P ops Q (ops.toList.drop n) a' w') (ops.toList.take n) a) : (Code.region id ops true).wp P Q a w := by
  simp only [tailB, Bool.and_eq_true, decide_eq_true_eq] at hB
  obtain ⟨⟨⟨⟨⟨hb, hs⟩, hc⟩, hn⟩, hq⟩, hl⟩ := hB
  simp only [Region.lexB, Bool.and_eq_true] at hl
  refine wp_region_any hm ?_
  have h1 := wpAnyQ_lex (P := P) (C := C) (md := .any) hl.1 (ops.toList.take n) 0 (Array.replicate (headOf ops n).size false) a (by simp [headOf]) (by simpa [headOf] using hl.2) h
  have h2 := wpAny_of_quiet (P := P) (Q' := headPost P ops Q n) (fun a' w' hw' (h : ∀ w', C w' → wpList P ops Q (ops.toList.drop n) a' w') => h w' hw') _ _ a { w with drawn := w.drawn + 1 } hC h1
  have hsz : (headOf ops n).size = n := by simp [headOf]; omega
  have hlen : (ops.toList.take n).length = n := by simp; omega
  rw [hsz, hlen] at h2
  have e : Array.replicate n false ++ Array.replicate (ops.size - n) false = Array.replicate ops.size false := by
    rw [Array.replicate_append_replicate, show n + (ops.size - n) = ops.size by omega]
  have inv : HeadInv .any ops n (Array.replicate n false ++ Array.replicate (ops.size - n) false) := by
    rw [e]
    refine ⟨by simp, fun j oj _ hl => ?_, fun t _ h2 => by simp [h2]⟩
    rw [getD_replicate_false] at hl
    cases hl
  have h3 := wpAny_head (P := P) (Q := Q) hb hs hc hn hq n (Array.replicate n false) a { w with drawn := w.drawn + 1 } (by simp) inv h2
  rw [show n + (ops.size - n) = ops.size by omega, e] at h3
  exact h3
variable {f : Fr} {S : List Nat} {w0 w : World} {L : List Item} {nf : Nat}
theorem region_tail {id : Nat} {l : List Oper} (hm : P.follows .mixedOrders = true) (n : Nat) (hB : tailB l.toArray n = true) (hS : StX S w0 w L)
    (h : wpQ P (headOf l.toArray n) S w0 L (fun a => ∀ w', StX S w0 w' L → wpList P l.toArray Q (l.drop n) a w') nf (l.take n) f) : (Code.region id l.toArray true).wp P Q (mk nf f) w :=
  wp_region_tail (C := fun w => StX S w0 w L) hm n hB (hS.step (ext_drew w)) h
theorem qtl {ops' : Array Oper} {tl : List Oper} (h : ∀ w', StX S w0 w' L → wpL P ops Q nf tl f w') : wpQ P ops' S w0 L (fun a => ∀ w', StX S w0 w' L → wpList P ops Q tl a w') nf [] f := h
end
end Bx
