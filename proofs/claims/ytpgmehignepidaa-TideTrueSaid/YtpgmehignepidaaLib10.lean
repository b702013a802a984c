/- Statements that draw their order, with a class of worlds for each operation of the head. -/
import Derived.Test.YtpgmehignepidaaLib9
set_option linter.all false
namespace Bx
open Go Go.RowKit
section
variable {P : Program} {ops : Array Oper} {Q : Exit → Act → World → Prop} {md : Region.Mode} {C : World → Prop} {m : Nat} {R : Nat → World → World → Prop}
/-- Whatever order is picked from here on; each operation keeps the relation. -/
def wpAR (P : Program) (md : Region.Mode) (ops : Array Oper) (Q : Exit → Act → World → Prop) (R : Nat → World → World → Prop) : Nat → Array Bool → Act → World → Prop
  | 0, listed, a, w => Region.ready md ops listed = [] ∧ Q .normal a w
  | fuel + 1, listed, a, w => (Region.ready md ops listed = [] → Q .normal a w) ∧
      ∀ i ∈ Region.ready md ops listed, wpOp P ops Q i (fun a' w' => R i w w' ∧ wpAR P md ops Q R fuel (listed.setIfInBounds i true) a' w') a w
theorem wpAny_of_AR : ∀ (fuel : Nat) (listed : Array Bool) (a : Act) (w : World), wpAR P md ops Q R fuel listed a w → wpAny P md ops Q fuel listed a w
  | 0, _, _, _, h => h
  | fuel + 1, _, _, _, h => ⟨h.1, fun i hi => wpOp_mono (fun a' w' h' => wpAny_of_AR fuel _ a' w' h'.2) (h.2 i hi)⟩
theorem wpAR_first {i : Nat} {oi : Oper} {v : Value} (hR : ∀ i w, R i w w) (hRC : ∀ j w w', R j w w' → j < m → C w → C w') (hi : ops[i]? = some oi) (hsel : ∀ (j : Nat) (o : Oper) cs b, ops[j]? = some o → o.op ≠ .select cs b) (hQ : ∀ c a a' w, Q (.panic c) a w → Q (.panic c) a' w)
    (late : ∀ j oj, ops[j]? = some oj → m ≤ j → ∃ e ∈ oj.after, Region.binds md e = true ∧ e.on = i) :
    ∀ (fuel : Nat) (listed : Array Bool) (a : Act) (w : World), C w →
      (∀ j oj, ops[j]? = some oj → j ≠ i → listed.getD j true = false → (∀ e ∈ oj.after, Region.binds md e = true → e.on ≠ i) → oi.apart ops oj = true) →
      i ∈ Region.ready md ops listed → Free P ops C oi v a →
      wpAR P md ops Q R fuel (listed.setIfInBounds i true) (a.put oi.dst v) w → wpAR P md ops Q R (fuel + 1) listed a w := by
  intro fuel
  induction fuel with
  | zero =>
    intro listed a w hC hfree hr hf H
    refine ⟨fun h => (by rw [h] at hr; cases hr), fun j hj => ?_⟩
    by_cases hji : j = i
    · subst hji; exact hf.op hi hC ⟨hR _ _, H⟩
    · have := ready_mono hj hji
      rw [H.1] at this
      cases this
  | succ fuel ih =>
    intro listed a w hC hfree hr hf H
    refine ⟨fun h => (by rw [h] at hr; cases hr), fun j hj => ?_⟩
    by_cases hji : j = i
    · subst hji; exact hf.op hi hC ⟨hR _ _, H⟩
    · have h1 := H.2 j (ready_mono hj hji)
      obtain ⟨hjun, oj, hoj, hall⟩ := mem_ready.1 hj
      have hun := (mem_ready.1 hr).1
      have hifalse : listed.getD i false = false := by
        rcases Nat.lt_or_ge i listed.size with h' | h'
        · simp [h'] at hun ⊢; exact hun
        · simp [Array.getElem?_eq_none h'] at hun
      have hnot : ∀ e ∈ oj.after, Region.binds md e = true → e.on ≠ i := fun e he hb heq => by
        have h0 := hall e he hb
        rw [heq, hifalse] at h0
        cases h0
      have hjm : j < m := by
        rcases Nat.lt_or_ge j m with h | h
        · exact h
        · obtain ⟨e, he, hb, hon⟩ := late j oj hoj h
          exact absurd hon (hnot e he hb)
      have hap := hfree j oj hoj hji hjun hnot
      have hfree' : ∀ k ok, ops[k]? = some ok → k ≠ i → (listed.setIfInBounds j true).getD k true = false →
          (∀ e ∈ ok.after, Region.binds md e = true → e.on ≠ i) → oi.apart ops ok = true := fun k ok hk hki hun hno => by
        refine hfree k ok hk hki ?_ hno
        by_cases hjk : j = k
        · subst hjk; exact hjun
        · rw [getD_set_ne true hjk] at hun; exact hun
      have h2 := wpOp_frame hoj (wpOp_put hoj hap (fun cs b => hsel j oj cs b hoj) hQ h1)
      refine wpOp_mono ?_ h2
      rintro a' w' ⟨⟨u, ds, rfl⟩, h3, h4⟩
      refine ⟨h3, ih (listed.setIfInBounds j true) _ w' (hRC _ _ _ h3 hjm hC) hfree' (ready_mono hr (Ne.symm hji)) (hf.keep hap (fun cs b => hsel i oi cs b hi)) ?_⟩
      rw [Array.setIfInBounds_comm _ _ hji]
      exact h4
/-- The class of an operation: none, the first one, the second one. -/
def clC (C1 C2 : World → Prop) : Nat → World → Prop
  | 0, _ => True
  | 1, w => C1 w
  | _, w => C2 w
def clM (big m1 m2 : Nat) : Nat → Nat
  | 0 => big
  | 1 => m1
  | _ => m2
def clR (C1 C2 : World → Prop) (m1 m2 : Nat) (i : Nat) (w w' : World) : Prop := (i < m1 → C1 w → C1 w') ∧ (i < m2 → C2 w → C2 w')
def headF (md : Region.Mode) (ops : Array Oper) (m1 m2 : Nat) : List Nat → Nat → Array Bool → Bool
  | [], _, _ => true
  | c :: cs, k, listed => (Region.ready md ops listed).contains k && Region.free md ops listed k && ((List.range ops.size).all fun j => Nat.blt j (clM ops.size m1 m2 c) || Region.waitsFor md ops j k) && headF md ops m1 m2 cs (k + 1) (listed.setIfInBounds k true)
def wpHF (P : Program) (ops : Array Oper) (C1 C2 : World → Prop) (K : Act → Prop) : List Nat → List Oper → Act → Prop
  | [], _, a => K a
  | c :: cs, o :: rest, a => ∃ v, Free P ops (clC C1 C2 c) o v a ∧ wpHF P ops C1 C2 K cs rest (a.put o.dst v)
  | _ :: _, [], _ => False
theorem wpAR_head {C1 C2 : World → Prop} {m1 m2 : Nat} (hs : Region.noSelect ops = true) (hQ : ∀ c a a' w, Q (.panic c) a w → Q (.panic c) a' w) (x : Nat) {w : World} (hC1 : C1 w) (hC2 : C2 w) : ∀ (cs : List Nat) (l : List Oper) (k : Nat) (listed : Array Bool) (a : Act), (∀ j, j < l.length → l[j]? = ops[k + j]?) →
    headF md ops m1 m2 cs k listed = true → wpHF P ops C1 C2 (fun a' => wpAR P md ops Q (clR C1 C2 m1 m2) x (listAt cs.length k listed) a' w) cs l a → wpAR P md ops Q (clR C1 C2 m1 m2) (cs.length + x) listed a w
  | [], l, k, listed, a, _, _, h => by simpa [listAt, wpHF] using h
  | _ :: _, [], _, _, _, _, _, h => absurd h (by simp [wpHF])
  | c :: cs, o :: l, k, listed, a, hl, hB, h => by
    have h0 : ops[k]? = some o := by simpa using (hl 0 (by simp)).symm
    simp only [headF, Bool.and_eq_true] at hB
    obtain ⟨⟨⟨hr, hfr⟩, hlate⟩, hB'⟩ := hB
    obtain ⟨v, hf, hK⟩ := h
    rw [List.length_cons, show cs.length + 1 + x = (cs.length + x) + 1 by omega]
    refine wpAR_first (C := clC C1 C2 c) (m := clM ops.size m1 m2 c) (fun i w => ⟨fun _ h => h, fun _ h => h⟩) ?_ h0 (Region.noSelect_spec hs) hQ ?_ (cs.length + x) listed a w ?_ (Region.free_spec h0 hfr) (by simpa using hr) hf
      (wpAR_head hs hQ x hC1 hC2 cs l (k + 1) _ _ (fun j hj => by have := hl (j + 1) (by simp; omega); simpa [Nat.add_assoc, Nat.add_comm 1 j] using this) hB' hK)
    · intro j w w' h1 h2 h3
      match c with
      | 0 => trivial
      | 1 => exact h1.1 h2 h3
      | _ + 2 => exact h1.2 h2 h3
    · intro j oj hoj hm
      have h1 := List.all_eq_true.1 hlate j (List.mem_range.2 (Array.getElem?_eq_some_iff.1 hoj).1)
      simp only [Bool.or_eq_true, Nat.blt_eq] at h1
      obtain ⟨oj', hoj', e, he, hb, hon⟩ := Region.waitsFor_spec (h1.resolve_left (by omega))
      rw [hoj] at hoj'
      obtain rfl := Option.some.inj hoj'
      exact ⟨e, he, hb, hon⟩
    · match c with
      | 0 => trivial
      | 1 => exact hC1
      | _ + 2 => exact hC2
variable {nf : Nat} {f : Fr} {w : World} {C1 C2 : World → Prop} {m1 m2 : Nat}
def wpR (P : Program) (ops : Array Oper) (Q : Exit → Act → World → Prop) (C1 C2 : World → Prop) (m1 m2 fuel : Nat) (listed : Array Bool) (nf : Nat) (f : Fr) (w : World) : Prop := wpAR P .any ops Q (clR C1 C2 m1 m2) fuel listed (mk nf f) w
theorem r_step {fuel : Nat} {listed : Array Bool} {i : Nat} {is : List Nat} (hr : Region.ready .any ops listed = i :: is)
    (h : AllOf (i :: is) fun i => ∃ o, ops[i]? = some o ∧ wpL P ops (Exit.then (fun a' w' => ((i < m1 → C1 w → C1 w') ∧ (i < m2 → C2 w → C2 w')) ∧ wpAR P .any ops Q (clR C1 C2 m1 m2) fuel (listed.setIfInBounds i true) a' w') Q) nf [o] f w) : wpR P ops Q C1 C2 m1 m2 (fuel + 1) listed nf f w := by
  refine ⟨fun h0 => (by rw [hr] at h0; cases h0), fun j hj => ?_⟩
  rw [hr] at hj
  obtain ⟨o, ho, hw⟩ := h.spec j hj
  unfold wpOp
  simp only [ho]
  unfold wpL at hw
  unfold wpList at hw
  split
  · rename_i hwd
    rw [if_pos hwd] at hw
    rcases hw with hw | ⟨h1, h2⟩
    · left
      unfold Oper.wp at hw ⊢
      generalize (execOp (mk nf f).eval o).run P w = r at hw ⊢
      cases r with
      | ok x w' =>
        cases x <;> simp only [Oper.upon] at hw ⊢ <;> first
          | exact hw
          | (refine Calls.mono hw ?_
             intro e w'' he
             cases e <;> exact he)
          | exact hw.mono fun v w'' hv => hv
      | halt x w' => cases x <;> exact hw
    · exact .inr ⟨h1, h2⟩
  · rename_i hwd
    rw [if_neg hwd] at hw
    exact hw
theorem r_end {fuel : Nat} {listed : Array Bool} (hr : Region.ready .any ops listed = []) (h : Q .normal (mk nf f) w) : wpR P ops Q C1 C2 m1 m2 fuel listed nf f w := by
  cases fuel with
  | zero => exact ⟨hr, h⟩
  | succ n => exact ⟨fun _ => h, fun i hi => by rw [hr] at hi; cases hi⟩
def wpG (P : Program) (ops : Array Oper) (C1 C2 : World → Prop) (K : Act → Prop) (cs : List Nat) (nf : Nat) (l : List Oper) (f : Fr) : Prop := wpHF P ops C1 C2 K cs l (mk nf f)
/-- A statement that draws its order: the first operations yield their values in each world of their classes; the rest in each order. -/
theorem region_two {S : List Nat} {w0 : World} {L : List Item} {id : Nat} {l : List Oper} (hm : P.follows .mixedOrders = true) (cs : List Nat) (m1 m2 : Nat) (C1 C2 : World → Prop)
    (hB : (Region.noSelect l.toArray && headF .any l.toArray m1 m2 cs 0 (Array.replicate l.length false) && Nat.ble cs.length l.length) = true) (hQ : ∀ c a a' w, Q (.panic c) a w → Q (.panic c) a' w) (hS : StX S w0 w L) (hC1 : ∀ w, StX S w0 w L → C1 w) (hC2 : ∀ w, StX S w0 w L → C2 w)
    (h : ∀ w, StX S w0 w L → wpG P l.toArray C1 C2 (fun a' => wpAR P .any l.toArray Q (clR C1 C2 m1 m2) (l.length - cs.length) (listAt cs.length 0 (Array.replicate l.length false)) a' w) cs nf l f) : (Code.region id l.toArray true).wp P Q (mk nf f) w := by
  simp only [Bool.and_eq_true, Nat.ble_eq] at hB
  obtain ⟨⟨hs, hh⟩, hn⟩ := hB
  have hS' := hS.step (ext_drew w)
  refine wp_region_any hm (wpAny_of_AR (R := clR C1 C2 m1 m2) _ _ _ _ ?_)
  have := wpAR_head (P := P) (Q := Q) (md := .any) (ops := l.toArray) (m1 := m1) (m2 := m2) hs hQ (l.length - cs.length) (hC1 _ hS') (hC2 _ hS') cs l 0 (Array.replicate l.length false) (mk nf f) (fun j hj => by simp) hh (h _ hS')
  rw [show cs.length + (l.length - cs.length) = l.length by omega] at this
  simpa using this
variable {K : Act → Prop} {rest : List Oper} {d : Nat} {ty : TypeId} {pos : String} {af : Array Edge} {cs : List Nat}
theorem hvc {c : Nat} {op : Op} {v : Value} (hr : ∀ w, clC C1 C2 c w → Y P (ev nf f) op ty w v w) (h : wpG P ops C1 C2 K cs nf rest (upd f d v)) : wpG P ops C1 C2 K (c :: cs) nf (⟨some d, op, ty, pos, af, none⟩ :: rest) f := by
  refine ⟨v, .inl ⟨by simp [Region.wanted], fun w hC => ?_⟩, ?_⟩
  · rw [mk_eval, execOp_xop, hr w hC]
  · show wpHF _ _ _ _ _ _ _ ((mk nf f).put (some d) v)
    rw [mk_put]
    exact h
theorem hv0 {op : Op} {v : Value} (hr : ∀ w, Y P (ev nf f) op ty w v w) (h : wpG P ops C1 C2 K cs nf rest (upd f d v)) : wpG P ops C1 C2 K (0 :: cs) nf (⟨some d, op, ty, pos, af, none⟩ :: rest) f := hvc (fun w _ => hr w) h
theorem hv1 {op : Op} {v : Value} (hr : ∀ w, C1 w → Y P (ev nf f) op ty w v w) (h : wpG P ops C1 C2 K cs nf rest (upd f d v)) : wpG P ops C1 C2 K (1 :: cs) nf (⟨some d, op, ty, pos, af, none⟩ :: rest) f := hvc hr h
theorem hv2 {op : Op} {v : Value} (hr : ∀ w, C2 w → Y P (ev nf f) op ty w v w) (h : wpG P ops C1 C2 K cs nf rest (upd f d v)) : wpG P ops C1 C2 K (2 :: cs) nf (⟨some d, op, ty, pos, af, none⟩ :: rest) f := hvc hr h
theorem hgnil {l : List Oper} (h : K (mk nf f)) : wpG P ops C1 C2 K [] nf l f := h
end
end Bx
