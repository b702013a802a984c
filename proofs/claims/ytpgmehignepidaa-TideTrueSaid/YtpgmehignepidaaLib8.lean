/- Statements that draw their order: what does not hang on the order first; the rest in each order that its edges allow. -/
import Derived.Test.YtpgmehignepidaaLib7
set_option linter.all false
namespace Bx
open Go Go.RowKit

section
variable {P : Program} {ops : Array Oper} {Q : Exit → Act → World → Prop} {md : Region.Mode} {C : World → Prop} {m : Nat}
/-- Whatever order is picked from here on; behind each operation before m the world is of the class. -/
def wpAC (P : Program) (md : Region.Mode) (ops : Array Oper) (Q : Exit → Act → World → Prop) (C : World → Prop) (m : Nat) : Nat → Array Bool → Act → World → Prop
  | 0, listed, a, w => Region.ready md ops listed = [] ∧ Q .normal a w
  | fuel + 1, listed, a, w => (Region.ready md ops listed = [] → Q .normal a w) ∧
      ∀ i ∈ Region.ready md ops listed, wpOp P ops Q i (fun a' w' => (i < m → C w') ∧ wpAC P md ops Q C m fuel (listed.setIfInBounds i true) a' w') a w
theorem wpAny_of_AC : ∀ (fuel : Nat) (listed : Array Bool) (a : Act) (w : World), wpAC P md ops Q C m fuel listed a w → wpAny P md ops Q fuel listed a w
  | 0, _, _, _, h => h
  | fuel + 1, _, _, _, h => ⟨h.1, fun i hi => wpOp_mono (fun a' w' h' => wpAny_of_AC fuel _ a' w' h'.2) (h.2 i hi)⟩
/-- In state a, in each world of the class, the operation leaves v and the world as it is. -/
def Free (P : Program) (ops : Array Oper) (C : World → Prop) (o : Oper) (v : Value) (a : Act) : Prop :=
  (Region.wanted o (yielded ops a.tmps) = true ∧ ∀ w, C w → (execOp a.eval o).run P w = .ok (.value v) w) ∨ (Region.wanted o (yielded ops a.tmps) = false ∧ v = undef)
theorem Free.op {i : Nat} {o : Oper} {v : Value} {a : Act} {w : World} {K : Act → World → Prop} (hi : ops[i]? = some o) (hf : Free P ops C o v a) (hC : C w) (h : K (a.put o.dst v) w) : wpOp P ops Q i K a w := by
  unfold wpOp
  simp only [hi]
  rcases hf with ⟨hw, hv⟩ | ⟨hw, rfl⟩
  · rw [if_pos hw]
    left
    unfold Oper.wp
    rw [hv w hC]
    exact h
  · rw [if_neg (by rw [hw]; decide)]
    exact h
/-- An operation that looks at none of it may go before a value is put. -/
theorem wpOp_put {j : Nat} {oi oj : Oper} {v : Value} (hj : ops[j]? = some oj) (hap : oi.apart ops oj = true) (hsj : ∀ cs b, oj.op ≠ .select cs b) (hQ : ∀ c a a' w, Q (.panic c) a w → Q (.panic c) a' w)
    {K : Act → World → Prop} {a : Act} {w : World} (h : wpOp P ops Q j K (a.put oi.dst v) w) : wpOp P ops Q j (fun a' w' => K (a'.put oi.dst v) w') a w := by
  obtain ⟨h1, h2, _⟩ := Oper.apart_spec hap
  have hx := execOp_put oj hsj a oi.dst v h1
  unfold wpOp at h ⊢
  simp only [hj] at h ⊢
  rw [wanted_put oj a oi.dst v h1] at h
  have hd : ∀ ds : List Deferred, ({ a.put oi.dst v with defers := ds } : Act) = ({ a with defers := ds } : Act).put oi.dst v := fun ds => by cases oi.dst <;> rfl
  have hdf : (a.put oi.dst v).defers = a.defers := by cases oi.dst <;> rfl
  split
  · rename_i hw
    rw [if_pos hw] at h
    rcases h with h | ⟨ha, hl⟩
    · left
      unfold Oper.wp at h ⊢
      rw [hx] at h
      generalize (execOp a.eval oj).run P w = r at h ⊢
      cases r with
      | ok x w' =>
        cases x <;> simp only [Oper.upon] at h ⊢
        case value u => rw [← Act.put_comm a v u h2]; exact h
        case skip => rw [← Act.put_comm a v undef h2]; exact h
        case defer d =>
          rw [hdf, hd] at h
          rw [← Act.put_comm _ v undef h2]
          exact h
        case enter g args =>
          refine Calls.mono h ?_
          intro e w'' he
          cases e with
          | returned u =>
            have he' : K ((a.put oi.dst v).put oj.dst u) w'' := he
            show K ((a.put oj.dst u).put oi.dst v) w''
            rw [← Act.put_comm a v u h2]; exact he'
          | panicked c => exact hQ _ _ _ _ he
          | outgrown => exact he
        case row row args =>
          refine h.mono fun u w'' he => ?_
          have he' : K ((a.put oi.dst v).put oj.dst u) w'' := he
          show K ((a.put oj.dst u).put oi.dst v) w''
          rw [← Act.put_comm a v u h2]; exact he'
      | halt x w' => cases x <;> first | exact hQ _ _ _ _ h | exact h
    · refine .inr ⟨?_, hl⟩
      unfold Oper.asks at ha ⊢
      rwa [hx] at ha
  · rename_i hw
    rw [if_neg hw] at h
    rw [← Act.put_comm a v undef h2]; exact h
/-- The frame behind an operation keeps what it did not write. -/
theorem wpOp_frame {j : Nat} {oj : Oper} (hj : ops[j]? = some oj) {K : Act → World → Prop} {a : Act} {w : World} (h : wpOp P ops Q j K a w) :
    wpOp P ops Q j (fun a' w' => (∃ u ds, a' = ({ a with defers := ds } : Act).put oj.dst u) ∧ K a' w') a w := by
  unfold wpOp at h ⊢
  simp only [hj] at h ⊢
  split
  · rename_i hw
    rw [if_pos hw] at h
    rcases h with h | h
    · left
      unfold Oper.wp at h ⊢
      generalize (execOp a.eval oj).run P w = r at h ⊢
      cases r with
      | ok x w' =>
        cases x <;> simp only [Oper.upon] at h ⊢
        case value u => exact ⟨⟨u, a.defers, rfl⟩, h⟩
        case skip => exact ⟨⟨undef, a.defers, rfl⟩, h⟩
        case defer d => exact ⟨⟨undef, _, rfl⟩, h⟩
        case enter g args =>
          refine Calls.mono h ?_
          intro e w'' he
          cases e with
          | returned u => exact ⟨⟨u, a.defers, rfl⟩, he⟩
          | panicked c => exact he
          | outgrown => exact he
        case row row args => exact h.mono fun u w'' he => ⟨⟨u, a.defers, rfl⟩, he⟩
      | halt x w' => cases x <;> exact h
    · exact .inr h
  · rename_i hw
    rw [if_neg hw] at h
    exact ⟨⟨undef, a.defers, rfl⟩, h⟩
theorem Free.keep {o oj : Oper} {v u : Value} {a : Act} {ds : List Deferred} (hap : o.apart ops oj = true) (hso : ∀ cs b, o.op ≠ .select cs b) (hf : Free P ops C o v a) : Free P ops C o v (({ a with defers := ds } : Act).put oj.dst u) := by
  obtain ⟨_, _, h3⟩ := Oper.apart_spec hap
  have e1 := execOp_put o hso ({ a with defers := ds } : Act) oj.dst u h3
  have e2 := wanted_put (ops := ops) o ({ a with defers := ds } : Act) oj.dst u h3
  unfold Free at hf ⊢
  rw [e1, e2]
  exact hf
theorem wpAC_first {i : Nat} {oi : Oper} {v : Value} (hi : ops[i]? = some oi) (hsel : ∀ (j : Nat) (o : Oper) cs b, ops[j]? = some o → o.op ≠ .select cs b) (hQ : ∀ c a a' w, Q (.panic c) a w → Q (.panic c) a' w)
    (late : ∀ j oj, ops[j]? = some oj → m ≤ j → ∃ e ∈ oj.after, Region.binds md e = true ∧ e.on = i) :
    ∀ (fuel : Nat) (listed : Array Bool) (a : Act) (w : World), C w →
      (∀ j oj, ops[j]? = some oj → j ≠ i → listed.getD j true = false → (∀ e ∈ oj.after, Region.binds md e = true → e.on ≠ i) → oi.apart ops oj = true) →
      i ∈ Region.ready md ops listed → Free P ops C oi v a →
      wpAC P md ops Q C m fuel (listed.setIfInBounds i true) (a.put oi.dst v) w → wpAC P md ops Q C m (fuel + 1) listed a w := by
  intro fuel
  induction fuel with
  | zero =>
    intro listed a w hC hfree hr hf H
    refine ⟨fun h => (by rw [h] at hr; cases hr), fun j hj => ?_⟩
    by_cases hji : j = i
    · subst hji; exact hf.op hi hC ⟨fun _ => hC, H⟩
    · have := ready_mono hj hji
      rw [H.1] at this
      cases this
  | succ fuel ih =>
    intro listed a w hC hfree hr hf H
    refine ⟨fun h => (by rw [h] at hr; cases hr), fun j hj => ?_⟩
    by_cases hji : j = i
    · subst hji; exact hf.op hi hC ⟨fun _ => hC, H⟩
    · have h1 := H.2 j (ready_mono hj hji)
      obtain ⟨hjun, oj, hoj, hall⟩ := mem_ready.1 hj
      have hun := (mem_ready.1 hr).1
      have hifalse : listed.getD i false = false := by
        rcases Nat.lt_or_ge i listed.size with h' | h'
        · simp [h'] at hun ⊢; exact hun
        · simp [Array.getElem?_eq_none h'] at hun
      have hnot : ∀ e ∈ oj.after, Region.binds md e = true → e.on ≠ i := fun e he hb heq => by
        have h0 := hall e he hb
        rw [heq, hifalse] at h0
        cases h0
      have hjm : j < m := by
        rcases Nat.lt_or_ge j m with h | h
        · exact h
        · obtain ⟨e, he, hb, hon⟩ := late j oj hoj h
          exact absurd hon (hnot e he hb)
      have hap := hfree j oj hoj hji hjun hnot
      have hfree' : ∀ k ok, ops[k]? = some ok → k ≠ i → (listed.setIfInBounds j true).getD k true = false →
          (∀ e ∈ ok.after, Region.binds md e = true → e.on ≠ i) → oi.apart ops ok = true := fun k ok hk hki hun hno => by
        refine hfree k ok hk hki ?_ hno
        by_cases hjk : j = k
        · subst hjk; exact hjun
        · rw [getD_set_ne true hjk] at hun; exact hun
      have h2 := wpOp_frame hoj (wpOp_put hoj hap (fun cs b => hsel j oj cs b hoj) hQ h1)
      refine wpOp_mono ?_ h2
      rintro a' w' ⟨⟨u, ds, rfl⟩, h3, h4⟩
      refine ⟨h3, ih (listed.setIfInBounds j true) _ w' (h3 hjm) hfree' (ready_mono hr (Ne.symm hji)) (hf.keep hap (fun cs b => hsel i oi cs b hi)) ?_⟩
      rw [Array.setIfInBounds_comm _ _ hji]
      exact h4
/-- The walk of the head: operations that yield their values in each world of the class. -/
def wpHead (P : Program) (ops : Array Oper) (C : World → Prop) (K : Act → Prop) : List Oper → Act → Prop
  | [], a => K a
  | o :: rest, a => ∃ v, Free P ops C o v a ∧ wpHead P ops C K rest (a.put o.dst v)
def headB (md : Region.Mode) (ops : Array Oper) (m : Nat) : Nat → Nat → Array Bool → Bool
  | 0, _, _ => true
  | n + 1, k, listed => (Region.ready md ops listed).contains k && Region.free md ops listed k && ((List.range ops.size).all fun j => Nat.blt j m || Region.waitsFor md ops j k) && headB md ops m n (k + 1) (listed.setIfInBounds k true)
def listAt : Nat → Nat → Array Bool → Array Bool
  | 0, _, l => l
  | n + 1, k, l => listAt n (k + 1) (l.setIfInBounds k true)
theorem wpAC_head (hs : Region.noSelect ops = true) (hQ : ∀ c a a' w, Q (.panic c) a w → Q (.panic c) a' w) (x : Nat) {w : World} (hC : C w) : ∀ (l : List Oper) (k : Nat) (listed : Array Bool) (a : Act), (∀ j, j < l.length → l[j]? = ops[k + j]?) →
    headB md ops m l.length k listed = true → wpHead P ops C (fun a' => wpAC P md ops Q C m x (listAt l.length k listed) a' w) l a → wpAC P md ops Q C m (l.length + x) listed a w
  | [], k, listed, a, _, _, h => by simpa [listAt, wpHead] using h
  | o :: l, k, listed, a, hl, hB, h => by
    have h0 : ops[k]? = some o := by simpa using (hl 0 (by simp)).symm
    simp only [List.length_cons, headB, Bool.and_eq_true] at hB
    obtain ⟨⟨⟨hr, hfr⟩, hlate⟩, hB'⟩ := hB
    obtain ⟨v, hf, hK⟩ := h
    rw [List.length_cons, show l.length + 1 + x = (l.length + x) + 1 by omega]
    refine wpAC_first h0 (Region.noSelect_spec hs) hQ ?_ (l.length + x) listed a w hC (Region.free_spec h0 hfr) (by simpa using hr) hf (wpAC_head hs hQ x hC l (k + 1) _ _ (fun j hj => by have := hl (j + 1) (by simp; omega); simpa [Nat.add_assoc, Nat.add_comm 1 j] using this) hB' hK)
    intro j oj hoj hm
    have h1 := List.all_eq_true.1 hlate j (List.mem_range.2 (Array.getElem?_eq_some_iff.1 hoj).1)
    simp only [Bool.or_eq_true, Nat.blt_eq] at h1
    obtain ⟨oj', hoj', e, he, hb, hon⟩ := Region.waitsFor_spec (h1.resolve_left (by omega))
    rw [hoj] at hoj'
    obtain rfl := Option.some.inj hoj'
    exact ⟨e, he, hb, hon⟩
def AllOf : List Nat → (Nat → Prop) → Prop
  | [], _ => True
  | i :: is, p => p i ∧ AllOf is p
theorem AllOf.spec {p : Nat → Prop} : ∀ {is : List Nat}, AllOf is p → ∀ i ∈ is, p i
  | _ :: _, h, i, hi => by
    rcases List.mem_cons.1 hi with rfl | hi
    · exact h.1
    · exact AllOf.spec h.2 i hi
variable {nf : Nat} {f : Fr} {w : World}
def wpA (P : Program) (ops : Array Oper) (Q : Exit → Act → World → Prop) (C : World → Prop) (m fuel : Nat) (listed : Array Bool) (nf : Nat) (f : Fr) (w : World) : Prop := wpAC P .any ops Q C m fuel listed (mk nf f) w
theorem a_step {fuel : Nat} {listed : Array Bool} {i : Nat} {is : List Nat} (hr : Region.ready .any ops listed = i :: is)
    (h : AllOf (i :: is) fun i => ∃ o, ops[i]? = some o ∧ wpL P ops (Exit.then (fun a' w' => (i < m → C w') ∧ wpAC P .any ops Q C m fuel (listed.setIfInBounds i true) a' w') Q) nf [o] f w) : wpA P ops Q C m (fuel + 1) listed nf f w := by
  refine ⟨fun h0 => (by rw [hr] at h0; cases h0), fun j hj => ?_⟩
  rw [hr] at hj
  obtain ⟨o, ho, hw⟩ := h.spec j hj
  unfold wpOp
  simp only [ho]
  unfold wpL at hw
  unfold wpList at hw
  split
  · rename_i hwd
    rw [if_pos hwd] at hw
    rcases hw with hw | ⟨h1, h2⟩
    · left
      unfold Oper.wp at hw ⊢
      generalize (execOp (mk nf f).eval o).run P w = r at hw ⊢
      cases r with
      | ok x w' =>
        cases x <;> simp only [Oper.upon] at hw ⊢ <;> first
          | exact hw
          | (refine Calls.mono hw ?_
             intro e w'' he
             cases e <;> exact he)
          | exact hw.mono fun v w'' hv => hv
      | halt x w' => cases x <;> exact hw
    · exact .inr ⟨h1, h2⟩
  · rename_i hwd
    rw [if_neg hwd] at hw
    exact hw
theorem a_end {fuel : Nat} {listed : Array Bool} (hr : Region.ready .any ops listed = []) (h : Q .normal (mk nf f) w) : wpA P ops Q C m fuel listed nf f w := by
  cases fuel with
  | zero => exact ⟨hr, h⟩
  | succ n => exact ⟨fun _ => h, fun i hi => by rw [hr] at hi; cases hi⟩
/-- A statement that draws its order: the first n operations yield their values in each world of the class; the rest in each order. -/
theorem region_any {S : List Nat} {w0 : World} {L : List Item} {id : Nat} {l : List Oper} (hm : P.follows .mixedOrders = true) (n m : Nat) (hB : (Region.noSelect l.toArray && headB .any l.toArray m n 0 (Array.replicate l.length false) && Nat.ble n l.length) = true) (hQ : ∀ c a a' w, Q (.panic c) a w → Q (.panic c) a' w) (hS : StX S w0 w L) (hC : ∀ w, StX S w0 w L → C w)
    (h : ∀ w, StX S w0 w L → wpHead P l.toArray C (fun a' => wpAC P .any l.toArray Q C m (l.length - n) (listAt n 0 (Array.replicate l.length false)) a' w) (l.take n) (mk nf f)) : (Code.region id l.toArray true).wp P Q (mk nf f) w := by
  simp only [Bool.and_eq_true, Nat.ble_eq] at hB
  obtain ⟨⟨hs, hh⟩, hn⟩ := hB
  have hlen : (l.take n).length = n := by simp; omega
  have hS' := hS.step (ext_drew w)
  refine wp_region_any hm (wpAny_of_AC (C := C) (m := m) _ _ _ _ ?_)
  have := wpAC_head (P := P) (Q := Q) (C := C) (m := m) (md := .any) (ops := l.toArray) hs hQ (l.length - n) (hC _ hS') (l.take n) 0 (Array.replicate l.length false) (mk nf f) (fun j hj => by rw [hlen] at hj; simp [hj]) (by rw [hlen]; exact hh) (by rw [hlen]; exact h _ hS')
  rw [hlen, show n + (l.length - n) = l.length by omega] at this
  simpa using this
def wpH (P : Program) (ops : Array Oper) (C : World → Prop) (K : Act → Prop) (nf : Nat) (l : List Oper) (f : Fr) : Prop := wpHead P ops C K l (mk nf f)
variable {K : Act → Prop} {rest : List Oper} {d : Nat} {ty : TypeId} {pos : String} {af : Array Edge}
theorem hv {op : Op} {v : Value} (hr : ∀ w, C w → Y P (ev nf f) op ty w v w) (h : wpH P ops C K nf rest (upd f d v)) : wpH P ops C K nf (⟨some d, op, ty, pos, af, none⟩ :: rest) f := by
  refine ⟨v, .inl ⟨by simp [Region.wanted], fun w hC => ?_⟩, ?_⟩
  · rw [mk_eval, execOp_xop, hr w hC]
  · show wpHead _ _ _ _ _ ((mk nf f).put (some d) v)
    rw [mk_put]
    exact h
theorem hnil (h : K (mk nf f)) : wpH P ops C K nf [] f := h
end

section
variable {P : Program} {ρ : Operand → Value} {w w0 : World} {ty : TypeId} {n : Nat} {f : Fr}
theorem yNil {x : Operand} {a : Addr} (hx : ρ x = .pointer (some a)) : Y P ρ (.nilCheck x) ty w (.pointer (some a)) w := by
  simp [Y, xop, execOp, hx]

/-! ### results -/
def rsem (tmps : Array Value) : ResultVar → Sem Value
  | .tmp t => pure (tmps.getD t undef)
  | .cell a t => do loadVar t (← asAddr (tmps.getD a undef))
theorem results_rsem (fn : Func) (tmps : Array Value) : results fn tmps = (do let vs ← fn.results.mapM (rsem tmps); pure (if h : vs.size = 1 then vs[0] else .tuple vs)) := by
  unfold results
  congr 1
def RVal (P : Program) (n : Nat) (f : Fr) (w : World) (r : ResultVar) (v : Value) : Prop := (rsem (mk n f).tmps r).run P w = .ok v w
theorem rt {t : Tmp} {v : Value} (h : ev n f (.tmp t) = v) : RVal P n f w (.tmp t) v := by
  subst h
  show (Pure.pure ((mk n f).tmps.getD t undef) : Sem Value).run P w = _
  rw [getD_mk]
  rfl
theorem rc {a T k : Nat} {b o : Nat} {cs vs : List Value} {t : TypeId} {fr : Nat × Nat} (hp : ev n f (.tmp a) = .pointer (some ⟨b, o, none⟩)) (hT : ∀ w, (isAgg T).run P w = .ok true w) (hs : ∀ w, (Go.sizeOf T).run P w = .ok k w)
    (hb : w.heap[b]? = some (.cells cs.toArray t fr)) (hv : (cs.drop o).take k = vs) (hl : vs.length = k) : RVal P n f w (.cell a T) (.agg vs.toArray) := by
  have h := yLdBA (P := P) (ty := 0) (ρ := ev n f) (a := .tmp a) (w := w) hp hT hs hb hv hl
  simp only [Y, xop, execOp, hp, Instr.loadAt, Instr.sureAddr, Sem.run_bind, Sem.run_pure, Result.andThen_ok] at h
  simp only [RVal, rsem, getD_mk, hp, Sem.run_bind, asAddr, Sem.run_pure, Result.andThen_ok]
  cases hr : (loadVar T ⟨b, o, none⟩).run P w with
  | ok v w' =>
    rw [hr] at h
    simp only [Result.andThen_ok, Result.ok.injEq, Next.value.injEq] at h
    rw [h.1, h.2]
  | halt e w' => rw [hr] at h; simp at h
theorem resV1 {fn : Func} {r : ResultVar} {v : Value} (h : fn.results = #[r]) (h1 : RVal P n f w r v) : (results fn (mk n f).tmps).run P w = .ok v w := by
  unfold RVal at h1
  simp [results_rsem, h, h1]
theorem resV2 {fn : Func} {r r' : ResultVar} {v v' : Value} (h : fn.results = #[r, r']) (h1 : RVal P n f w r v) (h2 : RVal P n f w r' v') : (results fn (mk n f).tmps).run P w = .ok (.tuple #[v, v']) w := by
  unfold RVal at h1 h2
  simp [results_rsem, h, h1, h2]
theorem resV3 {fn : Func} {r r' r'' : ResultVar} {v v' v'' : Value} (h : fn.results = #[r, r', r'']) (h1 : RVal P n f w r v) (h2 : RVal P n f w r' v') (h3 : RVal P n f w r'' v'') : (results fn (mk n f).tmps).run P w = .ok (.tuple #[v, v', v'']) w := by
  unfold RVal at h1 h2 h3
  simp [results_rsem, h, h1, h2, h3]
theorem retE {fn : Func} {u v : Value} (hr : (results fn (mk n f).tmps).run P w = .ok u w) (he : u = v) (h : Ext w0 w) : bodyPost P fn (fun e w' => ∃ u, e = .returned u ∧ u = v ∧ Ext w0 w') .ret (mk n f) w :=
  ⟨rfl, u, hr, u, rfl, he, h⟩
end

/-! ### make -/
section
variable {P : Program} {ops : Array Oper} {Q : Exit → Act → World → Prop} {n : Nat} {f : Fr} {S : List Nat} {w0 w w' : World} {L L' : List Item} {rest : List Oper} {d : Nat} {ty : TypeId} {pos : String} {af : Array Edge}
theorem zeros_eq (zs : Array Value) (m : Nat) : ((Array.range (m * zs.size)).map (fun i => zs[i % zs.size]!)).toList = (List.replicate m zs.toList).flatten := by
  induction m with
  | zero => simp
  | succ m ih =>
    rw [List.replicate_succ', List.flatten_append, ← ih]
    simp only [Array.toList_map, Array.toList_range, List.flatten_cons, List.flatten_nil, List.append_nil]
    rw [Nat.succ_mul, List.range_add, List.map_append, List.map_map]
    congr 1
    apply List.ext_getElem?
    intro i
    simp only [List.getElem?_map, Function.comp_def]
    rcases Nat.lt_or_ge i zs.size with h | h
    · rw [List.getElem?_range h]
      simp [Nat.mod_eq_of_lt h, h]
    · rw [List.getElem?_eq_none (by simpa using h), List.getElem?_eq_none (by simpa using h)]
      rfl
theorem smake {T E : TypeId} {i : TypeInfo} {z : Value} {zs : List Value} {xl xc : Operand} {m bytes k : Nat} (hS : StX S w0 w L) (hl : ev n f xl = .int .i64 (m : Int)) (hc : ev n f xc = .int .i64 (m : Int)) (hT : P.underlying T = some (.slice E)) (hi : P.info? E = some i) (hz : i.zero = some z) (hsz : i.size = k)
    (hby : i.bytes = bytes) (hzs : z.cells.toList = zs) (hk : zs.length = k) (hb : bytes * m ≤ 281474976710656) (hm : m ≤ 9223372036854775807)
    (h : ∀ b w', StX S w0 w' (blk b (List.replicate m zs).flatten E :: L) → wpL P ops Q n rest (upd f d (.slice (some ⟨b, 0, none⟩) m m)) w') : wpL P ops Q n (⟨some d, .makeSlice T xl xc, ty, pos, af, none⟩ :: rest) f w := by
  refine sv (v := .slice (some ⟨w.heap.size, 0, none⟩) m m) (w' := w.alloc (.cells (List.replicate m zs).flatten.toArray E (0, 0))) ?_ (h w.heap.size _ (hS.call1 (St.new w _)))
  subst hzs hby
  have hzk : z.cells.size = k := by rw [← hk]; simp
  have hr := run_make (P := P) w T E i z hT hi hz .i64 .i64 m m (by omega) (Int.le_refl _) (by omega) (by omega)
  have e := zeros_eq z.cells m
  have e2 : madeCells z.cells (m * i.size) = (List.replicate m z.cells.toList).flatten.toArray := by
    rw [hsz, ← hzk, ← e]
    rfl
  simp only [Int.toNat_natCast] at hr
  rw [e2] at hr
  simp only [Y, xop, execOp, hl, hc]
  rw [Sem.run_bind, hr]
  rfl
end

section
variable {P : Program} {ρ : Operand → Value} {w w' : World} {ty : TypeId}
theorem Y.to {op : Op} {v v' : Value} (h : Y P ρ op ty w v w') (e : v = v') : Y P ρ op ty w v' w' := e ▸ h
theorem yQuoP {x y : Operand} {a b : Int} {t t' : TypeId} (hx : ρ x = .int .i64 a) (hy : ρ y = .int .i64 b) (ha : 0 ≤ a ∧ a ≤ 9223372036854775807) (hb : 0 < b) : Y P ρ (.binOp .quo t x y t') ty w (.int .i64 (a / b)) w :=
  Y.to (yQuo hx hy hb ⟨by omega, ha.2⟩) (by rw [Int.tdiv_eq_ediv_of_nonneg ha.1])
theorem yRemP {x y : Operand} {a b : Int} {t t' : TypeId} (hx : ρ x = .int .i64 a) (hy : ρ y = .int .i64 b) (ha : 0 ≤ a) (hb : 0 < b) : Y P ρ (.binOp .rem t x y t') ty w (.int .i64 (a % b)) w :=
  Y.to (yRem hx hy hb) (by rw [Int.tmod_eq_emod_of_nonneg ha])
theorem row_some {e : TypeId} {k n : Nat} {v : Value} {xs : List Value} (h : w.ownsRow 0 e k v n xs) (hn : 0 < n) : ∃ g cap, v = .slice (some ⟨g, 0, none⟩) n cap ∧ n ≤ cap ∧ cap ≤ 9223372036854775807 ∧ Cells w g 0 xs := by
  rcases h.2 with ⟨_, h0⟩ | ⟨g, cap, cur, rfl, _, hg, hnc, hm, hc, ht⟩
  · omega
  · refine ⟨g, cap, rfl, hnc, by simp only [maxLen] at hm; omega, fun j u hu => ?_⟩
    rw [Nat.zero_add, World.cell?, hg]
    have hj : j < n * k := by
      have := (List.getElem?_eq_some_iff.1 hu).1
      rwa [h.1] at this
    rw [← ht, List.getElem?_take, if_pos hj] at hu
    simpa using hu
end

theorem slice_inj {a a' : Option Addr} {l l' c c' : Nat} (h : Value.slice a l c = .slice a' l' c') : a' = a ∧ c' = c := by
  injection h with h1 h2 h3
  exact ⟨h1.symm, h3.symm⟩
theorem StX.ne2 {S : List Nat} {w0 w : World} {x y : Item} {L : List Item} {a b : Nat} (h : StX S w0 w (x :: y :: L)) (hx : a ∈ y.fp ∧ b ∈ x.fp) : a ≠ b := by
  rintro rfl
  have h1 := h.apart
  have h2 : (x.fp ++ (y.fp ++ fps L)).Nodup := h1
  exact (List.nodup_append.1 h2).2.2 a hx.2 a (List.mem_append_left _ hx.1) rfl
theorem blk0 {w : World} {b : Nat} {cs : List Value} {t : TypeId} (h : w.heap[b]? = some (.cells cs.toArray t (0, 0))) : w.heap[b]? = some (.cells cs.toArray t (0, 0)) := h
theorem splice_len (cs : List Value) (o : Nat) (vs : List Value) (h : o + vs.length ≤ cs.length) : (splice cs o vs).length = cs.length := by
  unfold splice
  simp
  omega
theorem flat2 {α : Type} {enc : α → List Value} (hk : ∀ x, (enc x).length = 2) {l : List α} {k : Nat} {x : α} (h : l[k]? = some x) (j : Nat) {v : Value} (hv : (enc x)[j]? = some v) : (l.flatMap enc)[k * 2 + j]? = some v := by
  have hj : j < 2 := by
    have := (List.getElem?_eq_some_iff.1 hv).1
    rwa [hk] at this
  rw [flat_get hk l k j x h hj, hv]
theorem ints_sl {w : World} {b : Nat} {t : TypeId} {l : List Int} (h : w.heap[b]? = some (.cells (l.map (Value.int .i64)).toArray t (0, 0))) (hl : ∀ x ∈ l, I64 x) (hn : l.length ≤ 9223372036854775807 := by decide) : Sl w 1 RInt (.slice (some ⟨b, 0, none⟩) l.length l.length) l := by
  refine ⟨_, _, rfl, Nat.le_refl _, hn, fun i hi => ⟨b, 0, [.int .i64 l[i]], rfl, rfl, ?_, rfl, hl _ (List.getElem_mem hi)⟩⟩
  intro j v hv
  match j, hv with
  | 0, hv =>
    refine cell_of h ?_
    simp at hv ⊢
    exact ⟨l[i], by simp, hv⟩
  | j + 1, hv => simp at hv
theorem ble_splice {cs vs : List Value} {o k m : Nat} (hv : vs.length = k) (h : o + k ≤ cs.length) (hm : m ≤ cs.length) : Nat.ble m (splice cs o vs).length = true := by
  rw [Nat.ble_eq, splice_len _ _ _ (by omega)]; exact hm
theorem getD_at (l : List Int) (i : Nat) (h : i < l.length) : l[i] = l.getD i 0 := by simp [h]
section
variable {P : Program} {ρ : Operand → Value} {w w' : World} {ty : TypeId}
theorem yIx0 {x i : Operand} {T e : TypeId} {b len cap k m : Nat} {kd : IntKind} (hx : ρ x = .slice (some ⟨b, 0, none⟩) len cap) (hi : ρ i = .int kd (m : Int)) (hu : ∀ w, (underlying T).run P w = .ok (.slice e) w)
    (hs : ∀ w, (Go.sizeOf e).run P w = .ok k w) (h1 : m < len) : Y P ρ (.indexAddr T x i) ty w (.pointer (some ⟨b, m * k, none⟩)) w :=
  Y.to (yIx hx hi hu hs (by omega) (by omega)) (by rw [Int.toNat_natCast, Nat.zero_add])
end
end Bx
