/- Merged texts, part 2. -/
import Derived.Test.YtmoilbakmlekbaaGreatDoorQ1
import Derived.Defers
import Derived.Recover
import Derived.Laws.BitsLemmas
import Derived.Laws.CopyRow
import Derived.Laws.OwnMore
import Derived.SizedLaws
import Derived.Laws.StructEq
import Derived.Test.YtmoilbakmlekbaaGreatDoorProg
import Derived.Shelf.SortM.SortNone
import Derived.Shelf.SortM.Plain
import Derived.Shelf.SlGeneric
import Derived.Ground.SlgmProg
set_option linter.all false
/- part LibY -/
namespace Bx
open Go Go.RowKit
section
variable {P : Program} {ops : Array Oper} {ds : List Deferred} {Q : Exit → Act → World → Prop}
theorem oper_upP {o : Oper} (hn : noDefer o = true) {K K' : Act → World → Prop} (hK : ∀ a w, K a w → K' (wD ds a) w) {a : Act} {w : World} (h : o.wp P a w K (reD ds Q)) : o.wp P (wD ds a) w K' Q := by
  unfold Oper.wp at h ⊢
  rw [wD_eval]
  generalize (execOp a.eval o).run P w = res at h ⊢
  cases res with
  | ok x w' =>
    cases x with
    | value v => simp only [Oper.upon, wD_put] at h ⊢; exact hK _ _ h
    | skip => simp only [Oper.upon, wD_put] at h ⊢; exact hK _ _ h
    | defer d =>
      have h2 := hK _ _ h
      rw [← wD_put] at h2
      exact h2
    | enter g args =>
      refine Calls.mono h ?_
      intro e w'' he
      cases e with
      | returned v => simp only [wD_put]; exact hK _ _ he
      | panicked c => exact he
      | outgrown => obtain ⟨a2, w2, k⟩ := he; exact ⟨_, _, k⟩
    | row row args =>
      refine Rows.mono h ?_
      intro v w'' he
      simp only [wD_put]; exact hK _ _ he
    | _ => exact h.elim
  | halt x w' => cases x <;> first | exact h | exact h.elim
theorem list_upP : ∀ (l : List Oper) (a : Act) (w : World), l.all noDefer = true → wpList P ops (reD ds Q) l a w → wpList P ops Q l (wD ds a) w
  | [], _, _, _, h => h
  | o :: rest, a, w, hn, h => by
    rw [List.all_cons, Bool.and_eq_true] at hn
    unfold wpList at h ⊢
    by_cases hw : Region.wanted o (yielded ops a.tmps) = true
    · rw [if_pos hw] at h
      rw [if_pos (show Region.wanted o (yielded ops (wD ds a).tmps) = true from hw)]
      rcases h with h | h
      · exact .inl (oper_upP hn.1 (fun a w hh => list_upP rest a w hn.2 hh) h)
      · refine .inr ⟨?_, ?_⟩
        · have := h.1
          unfold Oper.asks at this ⊢
          rwa [wD_eval]
        · obtain ⟨a2, w2, k⟩ := h.2; exact ⟨_, _, k⟩
    · rw [if_neg hw] at h
      rw [if_neg (show ¬ Region.wanted o (yielded ops (wD ds a).tmps) = true from hw), wD_put]
      exact list_upP rest _ w hn.2 h
end
section
variable {P : Program} {ops : Array Oper} {Q : Exit → Act → World → Prop} {n : Nat} {f : Fr} {w : World} {ds : List Deferred} {rest : List Oper} {ty : TypeId} {pos : String} {af : Array Edge}
theorem regionD {id : Nat} {l : List Oper} (hn : l.all noDefer = true) (h : wpL P l.toArray (reD ds Q) n l f w) : (Code.region id l.toArray false).wp P Q (mkd n f ds) w := wp_region_lit (list_upP l _ w hn h)
theorem condD {c : Operand} {x y : Code} {B : Bool} (hc : ev n f c = .bool B) (ht : B = true → x.wp P Q (mkd n f ds) w) (hf : B = false → y.wp P Q (mkd n f ds) w) : (Code.cond c x y).wp P Q (mkd n f ds) w :=
  wp_cond (by rw [wD_eval, mk_eval]; exact hc) (by cases B <;> simp_all)
theorem cutD {c : Code} {l : List (Nat × Value)} (hk : Kn f l) (h : ∀ f, Kn f l → c.wp P Q (mkd n f ds) w) : c.wp P Q (mkd n f ds) w := h f hk
theorem seqDJ {x y : Code} {a : Act} (I : Fr → World → Prop) (hx : x.wp P (Exit.then (fun a w => ∃ f, a = mkd n f ds ∧ I f w) Q) a w) (hy : ∀ f w, I f w → y.wp P Q (mkd n f ds) w) : (Code.seq x y).wp P Q a w := by
  refine wp_seq (wp_mono hx ?_)
  intro e a w h
  cases e with
  | normal => obtain ⟨f, rfl, hI⟩ := h; exact hy f w hI
  | _ => exact h
/-- A region whose last operation defers a closure. -/
theorem sdefer {fx : Operand} {g : FuncId} {cl : List Value} (hf : ev n f fx = .func (.func g) #[] cl.toArray) (h : wpList P ops Q rest (mkd n f [{ target := .fn (.func g) cl.toArray, args := #[] }]) w) :
    wpL P ops Q n (⟨none, .defer ⟨.value fx, #[], #[]⟩, ty, pos, af, none⟩ :: rest) f w := by
  refine wpL_run rfl ?_
  unfold Oper.wp
  rw [mk_eval]
  simp only [execOp, resolve, Array.map_empty, hf, Deferred.ofValue, List.map_toArray, List.map_nil, Sem.run_bind, Sem.run_pure, Result.andThen_ok]
  exact h
end
section
variable {P : Program} {ops : Array Oper} {ds : List Deferred} {Q : Exit → Act → World → Prop}
theorem any_upP {md : Region.Mode} (hn : ops.toList.all noDefer = true) : ∀ (fuel : Nat) (listed : Array Bool) (a : Act) (w : World), wpAny P md ops (reD ds Q) fuel listed a w → wpAny P md ops Q fuel listed (wD ds a) w
  | 0, _, _, _, h => h
  | fuel + 1, listed, a, w, h => by
    refine ⟨h.1, fun i hi => ?_⟩
    have h1 := h.2 i hi
    unfold wpOp at h1 ⊢
    cases ho : ops[i]? with
    | none => simp only [ho] at h1 ⊢; exact any_upP hn fuel _ a w h1
    | some o =>
      simp only [ho] at h1 ⊢
      have hno2 : noDefer o = true := List.all_eq_true.1 hn o (List.mem_of_getElem? (by simpa using ho))
      by_cases hw : Region.wanted o (yielded ops a.tmps) = true
      · rw [if_pos hw] at h1
        rw [if_pos (show Region.wanted o (yielded ops (wD ds a).tmps) = true from hw)]
        rcases h1 with h1 | h1
        · exact .inl (oper_upP hno2 (fun a w hh => any_upP hn fuel _ a w hh) h1)
        · refine .inr ⟨?_, ?_⟩
          · have := h1.1
            unfold Oper.asks at this ⊢
            rwa [wD_eval]
          · obtain ⟨a2, w2, k⟩ := h1.2; exact ⟨_, _, k⟩
      · rw [if_neg hw] at h1
        rw [if_neg (show ¬ Region.wanted o (yielded ops (wD ds a).tmps) = true from hw), wD_put]
        exact any_upP hn fuel _ _ w h1
end
section
variable {P : Program} {ops : Array Oper} {Q : Exit → Act → World → Prop} {n : Nat} {f : Fr} {w : World} {ds : List Deferred} {rest : List Oper} {ty : TypeId} {pos : String} {af : Array Edge}
theorem drawD {id : Nat} {l : List Oper} (hm : P.follows .mixedOrders = true) (hn : l.all noDefer = true) (h : wpAny P .any l.toArray (reD ds Q) l.toArray.size (Array.replicate l.toArray.size false) (mk n f) { w with drawn := w.drawn + 1 }) : (Code.region id l.toArray true).wp P Q (mkd n f ds) w :=
  wp_region_any hm (any_upP (by simpa using hn) _ _ _ _ h)
theorem region_drawD {S : List Nat} {w0 : World} {L : List Item} {id : Nat} {l : List Oper} (hm : P.follows .mixedOrders = true) (hB : Region.lexB .any l.toArray = true) (hn : l.all noDefer = true) (hS : StX S w0 w L)
    (h : wpQ P l.toArray S w0 L (fun a => ∀ w', StX S w0 w' L → reD ds Q .normal a w') n l f) : (Code.region id l.toArray true).wp P Q (mkd n f ds) w := by
  refine drawD hm hn ?_
  simp only [Region.lexB, Bool.and_eq_true] at hB
  have h1 := wpAnyQ_lex (P := P) (C := fun w => StX S w0 w L) (md := .any) hB.1 l.toArray.toList 0 (Array.replicate l.toArray.size false) (mk n f) (by simp) (by simpa using hB.2) h
  have h2 := wpAny_of_quiet (P := P) (Q' := reD ds Q) (fun a' w' hw' (h : ∀ w', StX S w0 w' L → reD ds Q .normal a' w') => h w' hw') _ _ (mk n f) { w with drawn := w.drawn + 1 } (hS.step (ext_drew w)) h1
  simpa using h2
theorem region_tailD {S : List Nat} {w0 : World} {L : List Item} {id : Nat} {l : List Oper} (hm : P.follows .mixedOrders = true) (m : Nat) (hB : tailB l.toArray m = true) (hn : l.all noDefer = true) (hS : StX S w0 w L)
    (h : wpQ P (headOf l.toArray m) S w0 L (fun a => ∀ w', StX S w0 w' L → wpList P l.toArray (reD ds Q) (l.drop m) a w') n (l.take m) f) : (Code.region id l.toArray true).wp P Q (mkd n f ds) w := by
  refine drawD hm hn ?_
  simp only [tailB, Bool.and_eq_true, decide_eq_true_eq] at hB
  obtain ⟨⟨⟨⟨⟨hb, hs⟩, hc⟩, hm'⟩, hq⟩, hl⟩ := hB
  simp only [Region.lexB, Bool.and_eq_true] at hl
  have h1 := wpAnyQ_lex (P := P) (C := fun w => StX S w0 w L) (md := .any) hl.1 (l.toArray.toList.take m) 0 (Array.replicate (headOf l.toArray m).size false) (mk n f) (by simp [headOf]) (by simpa [headOf] using hl.2) h
  have h2 := wpAny_of_quiet (P := P) (Q' := headPost P l.toArray (reD ds Q) m) (fun a' w' hw' (h : ∀ w', StX S w0 w' L → wpList P l.toArray (reD ds Q) (l.toArray.toList.drop m) a' w') => h w' hw') _ _ (mk n f) { w with drawn := w.drawn + 1 } (hS.step (ext_drew w)) h1
  have hsz : (headOf l.toArray m).size = m := by simp [headOf] at *; omega
  have hlen : (l.toArray.toList.take m).length = m := by simp at *; omega
  rw [hsz, hlen] at h2
  have e : Array.replicate m false ++ Array.replicate (l.toArray.size - m) false = Array.replicate l.toArray.size false := by
    rw [Array.replicate_append_replicate, show m + (l.toArray.size - m) = l.toArray.size by omega]
  have inv : HeadInv .any l.toArray m (Array.replicate m false ++ Array.replicate (l.toArray.size - m) false) := by
    rw [e]
    refine ⟨by simp, fun j oj _ hl => ?_, fun t _ h2 => by simp only [List.size_toArray] at h2; simp [h2]⟩
    rw [getD_replicate_false] at hl
    cases hl
  have h3 := wpAny_head (P := P) (Q := reD ds Q) hb hs hc hm' hq m (Array.replicate m false) (mk n f) { w with drawn := w.drawn + 1 } (by simp) inv h2
  rw [show m + (l.toArray.size - m) = l.toArray.size by omega, e] at h3
  exact h3
theorem region_mixD {S : List Nat} {w0 : World} {L : List Item} {id : Nat} {l : List Oper} (C : World → Prop) (m : Nat) (hm : P.follows .mixedOrders = true) (hn : l.all noDefer = true) (hS : StX S w0 w L)
    (h : ∀ w, StX S w0 w L → wpA P l.toArray (reD ds Q) C m l.length (Array.replicate l.length false) n f w) : (Code.region id l.toArray true).wp P Q (mkd n f ds) w := by
  refine drawD hm hn ?_
  have := wpAny_of_AC (C := C) (m := m) _ _ _ _ (h _ (hS.step (ext_drew w)))
  simpa using this
/-! ### entering; leaving by a panic -/
theorem ini_get {l : List Value} {t : Nat} {v : Value} (h : l[t]? = some v) : ini l t = v := by simp [ini, List.getD, h]
theorem enter_acts (n : Nat) (fn : Func) (args : List Value) (hn : fn.ntmps = n) (hl : args.length ≤ n) : ({ tmps := args.toArray ++ Array.replicate (fn.ntmps - args.toArray.size) undef, defers := [] } : Act) = mk n (ini args) := by
  simp only [mk, Act.mk.injEq, and_true]
  apply Array.ext_getElem?
  intro t
  rw [hn]
  simp only [Array.getElem?_append, List.size_toArray, List.getElem?_toArray, Array.getElem?_replicate, List.getElem?_map]
  have hi : ini args t = args.getD t undef := rfl
  by_cases h1 : t < args.length
  · simp [h1, hi, show t < n by omega, List.getD]
  · by_cases h2 : t < n
    · simp [h1, h2, hi, List.getD, show t - args.length < n - args.length by omega]
    · simp [h1, h2, show ¬ t - args.length < n - args.length by omega]
/-- Enter a function that may end by a panic. -/
theorem enterE {g : FuncId} {fn : Func} {c : Code} {args : List Value} {R : Ending → World → Prop} (hf : P.funcs[g]? = some fn) (hb : fn.body = some c) (hn : fn.ntmps = n) (hl : Nat.ble args.length n = true)
    (h : c.wp P (bodyPost P fn R) (mk n (ini args)) w) : Calls P g args.toArray w R := by
  rw [Nat.ble_eq] at hl
  refine calls_of_wp hf hb ?_
  rw [enter_acts n fn args hn hl]
  exact h
/-- Enter a function that defers. -/
theorem enterD {g : FuncId} {fn : Func} {c : Code} {args : List Value} {R : Ending → World → Prop} (hf : P.funcs[g]? = some fn) (hb : fn.body = some c) (hn : fn.ntmps = n) (hl : Nat.ble args.length n = true)
    (h : c.wp P (bodyPostD P fn R) (mk n (ini args)) w) : Calls P g args.toArray w R := by
  rw [Nat.ble_eq] at hl
  refine calls_of_wp_defers hf hb ?_
  rw [enter_acts n fn args hn hl]
  exact h
/-- What a panic with a number of a type holds. -/
abbrev pE (T : TypeId) (e : Int) : List PanicEntry := [{ v := .iface T (.int .i64 e), recovered := false }]
/-- The contract of a demand: it returns if so, and panics else. -/
def Dem (P : Program) (g : FuncId) (T : TypeId) : Prop := ∀ (b : Bool) (e : Int) (w : World), Calls P g #[.bool b, .int .i64 e] w fun en w' => (b = true ∧ en = .returned (.tuple #[]) ∧ Ext w w') ∨ (b = false ∧ en = .panicked (pE T e) ∧ Ext w w')
theorem sdem {g : FuncId} {T : TypeId} {xb xe : Operand} {ts : Array TypeId} {B : Bool} {e : Int} {d : Nat} (hD : Dem P g T) (hc : ∀ ars w, (callFunc g ars).run P w = .ok (.enter g ars) w) (hb : ev n f xb = .bool B) (he : ev n f xe = .int .i64 e)
    (hp : B = false → ∀ w', Ext w w' → Q (.panic (pE T e)) (mk n f) w') (hn : B = true → ∀ w', Ext w w' → wpL P ops Q n rest (upd f d (.tuple #[])) w') : wpL P ops Q n (⟨some d, .call ⟨.value (.func g), #[xb, xe], ts⟩, ty, pos, af, none⟩ :: rest) f w := by
  refine wpL_run rfl ?_
  unfold Oper.wp
  have hx : (xop (ev n f) (.call ⟨.value (.func g), #[xb, xe], ts⟩) ty).run P w = .ok (.enter g #[.bool B, .int .i64 e]) w := by
    have := enterF (P := P) (f := f) (n := n) (w := w) (ty := ty) (ts := ts) hc (Evs.cons hb (Evs.cons he Evs.nil))
    exact this
  rw [mk_eval, execOp_xop, hx]
  refine Calls.mono (hD B e w) ?_
  rintro en w' (⟨h1, rfl, h2⟩ | ⟨h1, rfl, h2⟩)
  · show wpList P ops Q rest ((mk n f).put (some d) (.tuple #[])) w'
    rw [mk_put]
    exact hn h1 w' h2
  · exact hp h1 w' h2
/-- A call that may end by a panic. -/
theorem scallP {g : FuncId} {xs : List Operand} {ts : Array TypeId} {vs : List Value} {d : Nat} {R : Value → World → Prop} {Rp : List PanicEntry → World → Prop} (hc : ∀ ars w, (callFunc g ars).run P w = .ok (.enter g ars) w) (ha : Evs (ev n f) xs vs)
    (hC : Calls P g vs.toArray w fun e w' => (∃ v, e = .returned v ∧ R v w') ∨ ∃ c, e = .panicked c ∧ Rp c w')
    (hp : ∀ c w', Rp c w' → Q (.panic c) (mk n f) w') (hn : ∀ v w', R v w' → wpL P ops Q n rest (upd f d v) w') : wpL P ops Q n (⟨some d, .call ⟨.value (.func g), xs.toArray, ts⟩, ty, pos, af, none⟩ :: rest) f w := by
  refine wpL_run rfl ?_
  unfold Oper.wp
  rw [mk_eval, execOp_xop, enterF hc ha]
  refine Calls.mono hC ?_
  rintro en w' (⟨v, rfl, h2⟩ | ⟨c, rfl, h2⟩)
  · show wpList P ops Q rest ((mk n f).put (some d) v) w'
    rw [mk_put]
    exact hn v w' h2
  · exact hp c w' h2
end
theorem cutCX {P : Program} {Q : Exit → Act → World → Prop} {n : Nat} {f : Fr} {w : World} {ds : List Deferred} {r : Option Nat} {c : Code} {l : List (Nat × Value)} (hk : Kn f l) (h : ∀ f, Kn f l → c.wpIn (FX r) 0 P Q (mkd n f ds) w) : c.wpIn (FX r) 0 P Q (mkd n f ds) w := h f hk
end Bx
/- part LibD -/
namespace Bx
open Go Go.RowKit
section
variable {κ : Type} [DecidableEq κ] {P : Program}
def delM : List (κ × Value) → κ → List (κ × Value)
  | [], _ => []
  | (a, x) :: m, k => if k = a then m else (a, x) :: delM m k
theorem findNow_del {d : TypeDesc} {enc : κ → Value} (hd : ∀ a b, Instr.sameNow d (enc a) (enc b) = some (decide (a = b))) (k : κ) : ∀ (es : List MapEntry) (m : List (κ × Value)) (i : Nat), es.map (fun (e : MapEntry) => (e.key, e.val)) = m.map (fun p => (enc p.1, p.2)) →
    ∃ r, Instr.findNow d (enc k) es i = some r ∧
      (∀ j v0, r = some (j, v0) → ∃ l, j = i + l ∧ l < es.length ∧ (es.eraseIdx l).map (fun (e : MapEntry) => (e.key, e.val)) = (delM m k).map (fun p => (enc p.1, p.2))) ∧
      (r = none → delM m k = m)
  | [], m, i, h => by
    obtain rfl : m = [] := by simpa using h.symm
    exact ⟨none, rfl, (fun _ _ e => by cases e), fun _ => rfl⟩
  | e :: es, m, i, h => by
    cases m with
    | nil => simp at h
    | cons p m =>
      obtain ⟨a, x⟩ := p
      simp only [List.map_cons, List.cons.injEq, Prod.mk.injEq] at h
      obtain ⟨⟨h1, h2⟩, h3⟩ := h
      by_cases hka : k = a
      · subst hka
        refine ⟨some (i, e.val), by simp [Instr.findNow, h1, hd], ?_, fun e => by cases e⟩
        intro j v0 hj
        simp only [Option.some.injEq, Prod.mk.injEq] at hj
        refine ⟨0, by omega, by simp, ?_⟩
        simp [delM, h3]
      · obtain ⟨r, hr1, hr3, hr4⟩ := findNow_del hd k es m (i + 1) h3
        refine ⟨r, by simp [Instr.findNow, h1, hd, hka, hr1], ?_, ?_⟩
        · intro j v0 hj
          obtain ⟨l, rfl, hl, hv⟩ := hr3 j v0 hj
          refine ⟨l + 1, by omega, by simp; omega, ?_⟩
          simp only [List.eraseIdx_cons_succ, List.map_cons, delM, hka, if_false, h1, h2, hv]
        · intro hn
          simp only [delM, hka, if_false, hr4 hn]
theorem run_delete {w : World} {T K E ty : TypeId} {b : Nat} {enc : κ → Value} {m : List (κ × Value)} {k : κ} (hT : ∀ w, (underlying T).run P w = .ok (.map K E) w) (hk : KeyOk P K enc)
    (hb : ∃ o, w.heap[b]? = some o ∧ MapOk enc m o) : ∃ o' w', (Builtin.delete_ #[T, K] ty #[.map (some b), enc k]).run P w = .ok (.tuple #[]) w' ∧ Put b o' w w' ∧ MapOk enc (delM m k) o' := by
  obtain ⟨o, hb, es, c, rfl, hm⟩ := hb
  obtain ⟨d, hd, hs, h2⟩ := hk.und
  obtain ⟨r, hr, hsome, hnone⟩ := findNow_del hs k es.toList m 0 hm
  have hget : (getObj b).run P w = .ok (.map es c) w := by simp [getObj, Sem.run, hb]
  have hlt : b < w.heap.size := lt_of_heap hb
  have hset : ∀ o', (setObj b o').run P w = .ok () { w with heap := w.heap.setIfInBounds b o' } := fun o' => by simp [setObj, Sem.run, hb]
  have hput : ∀ o', Put b o' w { w with heap := w.heap.setIfInBounds b o' } := fun o' => by
    refine ⟨rfl, rfl, rfl, by simp, by simp [hlt], fun j _ hj => ?_⟩
    show (w.heap.setIfInBounds b o')[j]? = _
    rw [Array.getElem?_setIfInBounds, if_neg (fun e => hj e.symm)]
  cases r with
  | none =>
    refine ⟨.map es c, _, ?_, hput _, _, _, rfl, ?_⟩
    · simp [Builtin.delete_, hT, hget, run_checkKey hk, Instr.findKey, run_underlying hd, hr, hset]
    · rw [hnone rfl]; exact hm
  | some p =>
    obtain ⟨j, v0⟩ := p
    obtain ⟨l, hj, hl, hv⟩ := hsome j v0 rfl
    rw [Nat.zero_add] at hj
    subst hj
    have hl' : j < es.size := by simpa using hl
    refine ⟨.map (es.eraseIdxIfInBounds j) c, _, ?_, hput _, _, _, rfl, ?_⟩
    · simp [Builtin.delete_, hT, hget, run_checkKey hk, Instr.findKey, run_underlying hd, hr, hset]
    · rw [Array.eraseIdxIfInBounds, dif_pos hl', Array.toList_eraseIdx]
      exact hv
end
section
variable {P : Program} {ops : Array Oper} {Q : Exit → Act → World → Prop} {n : Nat} {f : Fr} {S : List Nat} {w0 w w' : World} {L L' : List Item} {rest : List Oper} {d : Nat} {ty : TypeId} {pos : String} {af : Array Edge}
variable {κ : Type} [DecidableEq κ]
theorem sdel (enc : κ → Value) {T K E K' : TypeId} {xm xk : Operand} {b : Nat} {m : List (κ × Value)} {k : κ} (hS : StX S w0 w L) (hm : ev n f xm = .map (some b)) (hx : ev n f xk = enc k) (hT : ∀ w, (underlying T).run P w = .ok (.map K E) w)
    (hk : KeyOk P K enc) [i : AtB L b (MapOk enc m)] [j : SetB L b (MapOk enc (delM m k)) L'] (h : ∀ w', StX S w0 w' L' → wpL P ops Q n rest f w') : wpL P ops Q n (⟨none, .call ⟨.builtin .delete, #[xm, xk], #[T, K']⟩, ty, pos, af, none⟩ :: rest) f w := by
  obtain ⟨o', w', hr, hp, ho⟩ := run_delete (ty := ty) (k := k) hT hk (hS.is b)
  have hfin := h w' (hS.puts hp ho)
  have hr' : (Builtin.delete_ #[T, K'] ty #[.map (some b), enc k]).run P w = .ok (.tuple #[]) w' := by
    have e : Builtin.delete_ #[T, K'] ty #[.map (some b), enc k] = Builtin.delete_ #[T, K] ty #[.map (some b), enc k] := rfl
    rw [e]; exact hr
  have hrun : (xop (ev n f) (.call ⟨.builtin .delete, #[xm, xk], #[T, K']⟩) ty).run P w = .ok (.value (.tuple #[])) w' := by
    simp [xop, execOp, resolve, hm, hx, invoke, builtin, hr']
  refine wpL_run rfl ?_
  unfold Oper.wp
  rw [mk_eval, execOp_xop, hrun]
  exact hfin
end
/-! ### a set of numbers -/
def opM (l : List Int) : List (Int × Value) := l.map fun i => (i, .bool true)
theorem getM_opM (l : List Int) (k : Int) : (getM (opM l) k).getD (.bool false) = .bool (decide (k ∈ l)) := by
  unfold opM
  induction l with
  | nil => rfl
  | cons a l ih =>
    simp only [List.map_cons, getM]
    by_cases h : k = a
    · rw [if_pos h]; simp [h]
    · rw [if_neg h, ih]; simp [h]
theorem setM_opM {l : List Int} {k : Int} (h : k ∉ l) : setM (opM l) k (.bool true) = opM (l ++ [k]) := by
  unfold opM
  induction l with
  | nil => rfl
  | cons a l ih =>
    rw [List.mem_cons, not_or] at h
    simp only [List.map_cons, List.cons_append, setM, if_neg h.1, ih h.2]
theorem delM_opM (l : List Int) (k : Int) : delM (opM l) k = opM (l.erase k) := by
  unfold opM
  induction l with
  | nil => rfl
  | cons a l ih =>
    simp only [List.map_cons, delM]
    by_cases h : k = a
    · subst h; simp
    · rw [if_neg h, List.erase_cons_tail (by simpa using fun e => h e.symm), ih]; rfl
end Bx
/- part LibQ -/
namespace Bx
open Go Go.RowKit
section
variable {P : Program} {ops : Array Oper} {Q : Exit → Act → World → Prop} {n : Nat} {f : Fr} {w w0 : World} {S : List Nat} {L L' : List Item} {rest : List Oper} {d : Nat} {ty : TypeId} {pos : String} {af : Array Edge} {ρ : Operand → Value}
theorem yIface {T : TypeId} {x : Operand} {v : Value} {k : IntKind} (hx : ρ x = v) (hT : P.underlying T = some (.int k)) : Y P ρ (.makeInterface T x) ty w (.iface T v) w := by
  simp [Y, xop, execOp, hx, Instr.makeInterface, run_underlying hT]
theorem spanic {x : Operand} {T : TypeId} {v : Value} (hx : ev n f x = .iface T v) (h : Q (.panic [{ v := .iface T v, recovered := false }]) (mk n f) w) : wpL P ops Q n (⟨none, .panic x, ty, pos, af, none⟩ :: rest) f w := by
  refine wpL_run rfl ?_
  unfold Oper.wp
  have hr : (xop (ev n f) (.panic x) ty).run P w = .halt (.panic (.iface T v)) w := by
    simp [xop, execOp, hx, Instr.panic, goPanic]
    try rfl
  rw [mk_eval, execOp_xop, hr]
  exact h
/-- A statement that does not panic. -/
def noPan (Q : Exit → Act → World → Prop) : Exit → Act → World → Prop
  | .panic _, _, _ => False
  | e, a, w => Q e a w
theorem unP {a : Act} (h : Q .normal a w) : noPan Q .normal a w := h
theorem quietP {c : Code} {a : Act} (h : c.wp P (noPan Q) a w) : c.wp P Q a w := wp_mono h (by intro e a w h; cases e <;> first | exact h | exact h.elim)
end
end Bx
/- part LibK -/
namespace Bx
open Go Go.RowKit
section
variable {κ : Type} [DecidableEq κ] {P : Program}
def FindOk (enc : κ → Value) (m : List (κ × Value)) (k : κ) (es : List MapEntry) (i : Nat) (r : Option (Nat × Value)) : Prop :=
  r.map (·.2) = getM m k ∧
  (∀ j v0, r = some (j, v0) → ∃ l, j = i + l ∧ ∃ (hl : l < es.length), es[l].key = enc k ∧ ∀ v, (es.modify l (fun e => { e with key := enc k, val := v })).map (fun (e : MapEntry) => (e.key, e.val)) = (setM m k v).map (fun p => (enc p.1, p.2))) ∧
  (r = none → ∀ v, (es ++ [(⟨enc k, v, 0⟩ : MapEntry)]).map (fun (e : MapEntry) => (e.key, e.val)) = (setM m k v).map (fun p => (enc p.1, p.2)))
structure KeyFn (P : Program) (T : TypeId) (enc : κ → Value) : Prop where
  check : ∀ e k w, (Instr.checkKey e 10000 T (enc k)).run P w = .ok () w
  find : ∀ (k : κ) (es : List MapEntry) (m : List (κ × Value)) (w : World), es.map (fun (e : MapEntry) => (e.key, e.val)) = m.map (fun p => (enc p.1, p.2)) → ∃ r, (Instr.findKey T (enc k) es).run P w = .ok r w ∧ FindOk enc m k es 0 r
  bits : ∀ a, Instr.sameBits 10000 (enc a) (enc a) = true
theorem findAsk_get {T : TypeId} {enc : κ → Value} (hd : ∀ a b w, (Op.equal T (enc a) (enc b)).run P w = .ok (decide (a = b)) w) (k : κ) (w : World) : ∀ (es : List MapEntry) (m : List (κ × Value)) (i : Nat), es.map (fun (e : MapEntry) => (e.key, e.val)) = m.map (fun p => (enc p.1, p.2)) →
    ∃ r, (Instr.findAsking T (enc k) es i).run P w = .ok r w ∧ FindOk enc m k es i r
  | [], m, i, h => by
    obtain rfl : m = [] := by simpa using h.symm
    exact ⟨none, rfl, rfl, (fun _ _ e => by cases e), fun _ v => rfl⟩
  | e :: es, m, i, h => by
    cases m with
    | nil => simp at h
    | cons p m =>
      obtain ⟨a, x⟩ := p
      simp only [List.map_cons, List.cons.injEq, Prod.mk.injEq] at h
      obtain ⟨⟨h1, h2⟩, h3⟩ := h
      by_cases hka : k = a
      · subst hka
        refine ⟨some (i, e.val), by simp [Instr.findAsking, h1, hd], by simp [getM, h2], ?_, fun e => by cases e⟩
        intro j v0 hj
        simp only [Option.some.injEq, Prod.mk.injEq] at hj
        refine ⟨0, by omega, by simp, h1, fun v => ?_⟩
        simp [setM, h3]
      · obtain ⟨r, hr1, hr2, hr3, hr4⟩ := findAsk_get hd k w es m (i + 1) h3
        refine ⟨r, by simp [Instr.findAsking, h1, hd, hka, hr1], by simp [getM, hka, hr2], ?_, ?_⟩
        · intro j v0 hj
          obtain ⟨l, rfl, hl, hk, hv⟩ := hr3 j v0 hj
          refine ⟨l + 1, by omega, by simp; omega, by simpa using hk, fun v => ?_⟩
          have := hv v
          simp only [List.modify_succ_cons, List.map_cons, setM, hka, if_false, h1, h2]
          rw [this]
        · intro hn v
          have := hr4 hn v
          simp only [List.cons_append, List.map_cons, setM, hka, if_false, h1, h2]
          rw [this]
theorem KeyFn.struct {T : TypeId} {enc : κ → Value} {fs : Array Field} (hu : P.underlying T = some (.struct fs)) (hd : ∀ a b w, (Op.equal T (enc a) (enc b)).run P w = .ok (decide (a = b)) w) (hc : ∀ e k w, (Instr.checkKey e 10000 T (enc k)).run P w = .ok () w) (hb : ∀ a, Instr.sameBits 10000 (enc a) (enc a) = true) : KeyFn P T enc := by
  refine ⟨hc, fun k es m w h => ?_, hb⟩
  obtain ⟨r, hr, hok⟩ := findAsk_get hd k w es m 0 h
  refine ⟨r, ?_, hok⟩
  simp only [Instr.findKey, Sem.run_bind, run_underlying hu, Result.andThen_ok]
  cases es with
  | nil => simpa [Instr.findNow, Instr.findAsking] using hr
  | cons e es => simpa [Instr.findNow, Instr.sameNow] using hr
theorem run_lookup2 {w : World} {T K E : TypeId} {b : Nat} {enc : κ → Value} {m : List (κ × Value)} {k : κ} {z : Value} {ok : Bool} (hT : ∀ w, (underlying T).run P w = .ok (.map K E) w) (hk : KeyFn P K enc) (hz : ∀ w, (zeroValue E).run P w = .ok z w)
    (hb : ∃ o, w.heap[b]? = some o ∧ MapOk enc m o) : (Instr.lookup T (.map (some b)) (enc k) ok).run P w = .ok (if ok then .tuple #[(getM m k).getD z, .bool (getM m k).isSome] else (getM m k).getD z) w := by
  obtain ⟨o, hb, es, c, rfl, hm⟩ := hb
  obtain ⟨r, hr, hg, _⟩ := hk.find k es.toList m w hm
  have hget : (getObj b).run P w = .ok (.map es c) w := by simp [getObj, Sem.run, hb]
  rw [← hg]
  simp only [Instr.lookup, Sem.run_bind, hT, Result.andThen_ok, hget, Sem.run_pure, hk.check, hr]
  cases r with
  | none => simp [hz]
  | some p => simp
theorem run_mapUpdate2 {w : World} {T K E : TypeId} {b : Nat} {enc : κ → Value} {m : List (κ × Value)} {k : κ} {v : Value} (hT : ∀ w, (underlying T).run P w = .ok (.map K E) w) (hk : KeyFn P K enc)
    (hb : ∃ o, w.heap[b]? = some o ∧ MapOk enc m o) : ∃ o' w', (Instr.mapUpdate T (.map (some b)) (enc k) v).run P w = .ok () w' ∧ Put b o' w w' ∧ MapOk enc (setM m k v) o' := by
  obtain ⟨o, hb, es, c, rfl, hm⟩ := hb
  obtain ⟨r, hr, _, hsome, hnone⟩ := hk.find k es.toList m w hm
  have hget : (getObj b).run P w = .ok (.map es c) w := by simp [getObj, Sem.run, hb]
  have hlt : b < w.heap.size := lt_of_heap hb
  have hset : ∀ o', (setObj b o').run P w = .ok () { w with heap := w.heap.setIfInBounds b o' } := fun o' => by simp [setObj, Sem.run, hb]
  have hput : ∀ o', Put b o' w { w with heap := w.heap.setIfInBounds b o' } := fun o' => by
    refine ⟨rfl, rfl, rfl, by simp, by simp [hlt], fun j _ hj => ?_⟩
    show (w.heap.setIfInBounds b o')[j]? = _
    rw [Array.getElem?_setIfInBounds, if_neg (fun e => hj e.symm)]
  cases r with
  | none =>
    refine ⟨.map (es.push ⟨enc k, v, c⟩) (c + 1), _, ?_, hput _, _, _, rfl, ?_⟩
    · simp only [Instr.mapUpdate, Sem.run_bind, hT, Result.andThen_ok, hget, hk.check, hr, Sem.run_pure, hset]
    · have := hnone rfl v
      simpa using this
  | some p =>
    obtain ⟨j, v0⟩ := p
    obtain ⟨l, hj, hl, hkey, hv⟩ := hsome j v0 rfl
    rw [Nat.zero_add] at hj
    subst hj
    have hl' : j < es.size := by simpa using hl
    have hstay : ∀ w, (Instr.keyThatStays (((es[j]?).map (·.key)).getD (enc k)) (enc k)).run P w = .ok (enc k) w := fun w => by
      have : es[j].key = enc k := by simpa using hkey
      simp [Instr.keyThatStays, hl', this, hk.bits]
    refine ⟨.map (es.modify j fun e => { e with key := enc k, val := v }) c, _, ?_, hput _, _, _, rfl, ?_⟩
    · simp only [Instr.mapUpdate, Sem.run_bind, hT, Result.andThen_ok, hget, hk.check, hr, Sem.run_pure, hstay, hset]
    · have := hv v
      simpa [Array.toList_modify] using this
end
section
variable {P : Program} {ops : Array Oper} {Q : Exit → Act → World → Prop} {n : Nat} {f : Fr} {S : List Nat} {w0 w w' : World} {L L' : List Item} {rest : List Oper} {d : Nat} {ty : TypeId} {pos : String} {af : Array Edge}
variable {κ : Type} [DecidableEq κ]
theorem smapset2 (enc : κ → Value) {T K E : TypeId} {xm xk xv : Operand} {b : Nat} {m : List (κ × Value)} {k : κ} {v : Value} (hS : StX S w0 w L) (hm : ev n f xm = .map (some b)) (hx : ev n f xk = enc k) (hv : ev n f xv = v) (hT : ∀ w, (underlying T).run P w = .ok (.map K E) w)
    (hk : KeyFn P K enc) [i : AtB L b (MapOk enc m)] [j : SetB L b (MapOk enc (setM m k v)) L'] (h : ∀ w', StX S w0 w' L' → wpL P ops Q n rest f w') : wpL P ops Q n (⟨none, .mapUpdate T xm xk xv, ty, pos, af, none⟩ :: rest) f w := by
  obtain ⟨o', w', hr, hp, ho⟩ := run_mapUpdate2 (k := k) (v := v) hT hk (hS.is b)
  refine wpL_skip (w' := w') ?_ (h w' (hS.puts hp ho))
  simp [xop, execOp, hm, hx, hv, hr]
theorem yLookOk2 (enc : κ → Value) {ρ : Operand → Value} {T K E : TypeId} {xm xk : Operand} {b : Nat} {m : List (κ × Value)} {k : κ} {z v : Value} (hm : ρ xm = .map (some b)) (hx : ρ xk = enc k) (hT : ∀ w, (underlying T).run P w = .ok (.map K E) w) (hk : KeyFn P K enc)
    (hz : ∀ w, (zeroValue E).run P w = .ok z w) (hb : ∃ o, w.heap[b]? = some o ∧ MapOk enc m o) (hv : (getM m k).getD z = v) : Y P ρ (.lookup T xm xk true) ty w (.tuple #[v, .bool (getM m k).isSome]) w := by
  subst hv
  simp [Y, xop, execOp, hm, hx, run_lookup2 (ok := true) hT hk hz hb]
end
section
variable {P : Program} {ops : Array Oper} {Q : Exit → Act → World → Prop} {n : Nat} {rest : List Oper} {f : Fr} {w : World} {d : Nat} {ty : TypeId} {pos : String} {af : Array Edge}
/-- A guarded call that changes what is owned. -/
theorem wpL_gcallR {j : Nat} {want : Bool} {dj : Nat} {fx : Operand} {g : FuncId} {xs : List Operand} {ts : Array TypeId} {vs cl : List Value} {v : Value} {G : Prop} (Inv : World → Prop) (hI : Inv w) (hd : dstOf ops j = some dj) (hn : Nat.blt dj n = true) (hG : G ↔ f dj = .bool want)
    (hf : G → ev n f fx = .func (.func g) #[] cl.toArray) (hc : ∀ ars w, (callFunc g ars).run P w = .ok (.enter g ars) w) (ha : G → Evs (ev n f) xs vs) (hC : G → CE P g (vs ++ cl).toArray w (fun u w' => u = v ∧ Inv w'))
    (h : ∀ v' w', Inv w' → Cnd G v' v → wpL P ops Q n rest (upd f d v') w') :
    wpL P ops Q n (⟨some d, .call ⟨.value fx, xs.toArray, ts⟩, ty, pos, af, some (j, want)⟩ :: rest) f w := by
  rw [Nat.blt_eq] at hn
  have hy := yielded_eq (f := f) hd hn
  by_cases g' : G
  · have hfj := hG.1 g'
    have := scallf (P := P) (ops := ops) (Q := Q) (rest := rest) (d := d) (ty := ty) (pos := pos) (af := af) (ts := ts) (hf g') hc (ha g') (hC g') (fun v' w' (hR : v' = v ∧ Inv w') => h v' w' hR.2 ⟨fun _ => hR.1, fun hn => absurd g' hn⟩)
    unfold wpL at this ⊢
    unfold wpList at this ⊢
    rw [hfj] at hy
    rw [if_pos (by simp [Region.wanted, hy])]
    rw [if_pos (by simp [Region.wanted])] at this
    exact this
  · have hfj : f dj ≠ .bool want := fun e => g' (hG.2 e)
    unfold wpL
    unfold wpList
    rw [if_neg (by
      simp only [Region.wanted, hy]
      intro hc
      cases hv : f dj <;> simp [hv] at hc
      rename_i b
      exact hfj (by rw [hv, hc]))]
    show wpList P ops Q rest ((mk n f).put (some d) undef) w
    rw [mk_put]
    exact h undef w hI ⟨fun hg => absurd hg g', fun _ => rfl⟩
theorem sggR {j : Nat} {want : Bool} {dj : Nat} {fx : Operand} {g : FuncId} {xs : List Operand} {ts : Array TypeId} {vs cl : List Value} {v : Value} {B : Bool} {Gj : Prop} (Inv : World → Prop) (hI : Inv w) (hd : dstOf ops j = some dj) (hn : Nat.blt dj n = true) (hb : Cnd Gj (f dj) (.bool B))
    (hf : Gj ∧ B = want → ev n f fx = .func (.func g) #[] cl.toArray) (hc : ∀ ars w, (callFunc g ars).run P w = .ok (.enter g ars) w) (ha : Gj ∧ B = want → Evs (ev n f) xs vs) (hC : Gj ∧ B = want → CE P g (vs ++ cl).toArray w (fun u w' => u = v ∧ Inv w'))
    (h : ∀ v' w', Inv w' → Cnd (Gj ∧ B = want) v' v → wpL P ops Q n rest (upd f d v') w') :
    wpL P ops Q n (⟨some d, .call ⟨.value fx, xs.toArray, ts⟩, ty, pos, af, some (j, want)⟩ :: rest) f w :=
  wpL_gcallR Inv hI hd hn (cnd_iff hb) hf hc ha hC h
end
def encSp (p : Int × Int) : Value := .agg #[.int .i64 p.1, .int .i64 p.2]
end Bx
/- part LibP -/
namespace Bx
open Go Go.RowKit
/-- Several parts as one. -/
def packI (L : List Item) : Item where
  fp := fps L
  ok := fun w => ∀ it ∈ L, it.ok w
  loc := fun w w' h hw it hi => it.loc w w' (fun b hb => h b (List.mem_flatMap.2 ⟨it, hi, hb⟩)) (hw it hi)
  here := fun w hw b hb => by
    obtain ⟨it, hi, hb⟩ := List.mem_flatMap.1 hb
    exact it.here w (hw it hi) b hb
theorem fps_app (L M : List Item) : fps (L ++ M) = fps L ++ fps M := by simp [fps]
theorem fps_pack (M L : List Item) : fps (packI M :: L) = fps (M ++ L) := by rw [fps_app]; rfl
theorem StX.pack {S : List Nat} {w0 w : World} {M L : List Item} (h : StX S w0 w (M ++ L)) : StX S w0 w (packI M :: L) :=
  ⟨h.extx, fun it hi => by
    rcases List.mem_cons.1 hi with rfl | hi
    · exact fun j hj => h.ok j (List.mem_append_left _ hj)
    · exact h.ok it (List.mem_append_right _ hi), by rw [fps_pack]; exact h.own, by rw [fps_pack]; exact h.apart⟩
theorem StX.unpack {S : List Nat} {w0 w : World} {M L : List Item} (h : StX S w0 w (packI M :: L)) : StX S w0 w (M ++ L) := by
  have h2 := h.own
  have h3 := h.apart
  rw [fps_pack] at h2 h3
  exact ⟨h.extx, fun it hi => by
    rcases List.mem_append.1 hi with hi | hi
    · exact h.ok (packI M) (List.mem_cons_self ..) it hi
    · exact h.ok it (List.mem_cons_of_mem _ hi), h2, h3⟩
/-- One part more is packed. -/
theorem StX.packs {S : List Nat} {w0 w : World} {M L : List Item} {x : Item} (h : StX S w0 w (x :: packI M :: L)) : StX S w0 w (packI (M ++ [x]) :: L) := by
  have h1 : StX S w0 w (packI M :: x :: L) := h.perm (.swap _ _ _)
  have h2 : StX S w0 w ((M ++ [x]) ++ L) := by rw [List.append_assoc]; exact h1.unpack
  exact h2.pack
/-- What holds of a packed part. -/
theorem StX.inpack {S : List Nat} {w0 w : World} {M L : List Item} (h : StX S w0 w L) (hp : packI M ∈ L) {it : Item} (hi : it ∈ M) : it.ok w := h.ok _ hp it hi
section
variable {P : Program} {ρ : Operand → Value} {w : World} {ty : TypeId}
/-- Appending a slice without parts. -/
theorem yApp0 {t e : TypeId} {x y : Operand} {a b : Option Addr} {n cap c k : Nat} (hx : ρ x = .slice a n cap) (hy : ρ y = .slice b 0 c) (ht : P.underlying t = some (.slice e)) (hs : ∀ w, (Go.sizeOf e).run P w = .ok k w) (hn : n ≤ cap) :
    Y P ρ (.call ⟨.builtin .append, #[x, y], #[t, t]⟩) ty w (.slice a n cap) w := by
  have h0 : n + 0 ≤ cap := hn
  simp only [Y, xop, execOp, resolve, invoke, builtin, Builtin.append_, List.map_toArray, List.map_cons, List.map_nil, hx, hy]
  cases a <;> cases b <;> simp [run_underlying ht, hs, Builtin.lenOf, Builtin.firstCells, loadCells, loadCellsFrom, storeCells, hn]
end
abbrev wr (n : Int) : Int := IntKind.i64.wrap n
theorem wr_64 (n : Int) : I64 (wr n) := by unfold wr I64; rw [IntKind.wrap_i64]; omega
theorem wr_in {n : Int} (h : I64 n) : wr n = n := wrap_in h

theorem flatten_set {k : Nat} {vs : List Value} : ∀ (css : List (List Value)) (i j : Nat) (cs : List Value), (∀ c ∈ css, c.length = k) → css[i]? = some cs → j + vs.length ≤ k → splice css.flatten (i * k + j) vs = (css.set i (splice cs j vs)).flatten
  | [], i, j, cs, _, h, _ => by simp at h
  | c :: css, 0, j, cs, hl, h, hj => by
    obtain rfl : c = cs := by simpa using h
    have hc := hl c (List.mem_cons_self ..)
    rw [Nat.zero_mul, Nat.zero_add, List.set_cons_zero, List.flatten_cons, List.flatten_cons]
    unfold splice
    rw [List.take_append_of_le_length (by omega), List.drop_append_of_le_length (by omega)]
    simp only [List.append_assoc]
  | c :: css, i + 1, j, cs, hl, h, hj => by
    have hc := hl c (List.mem_cons_self ..)
    have ih := flatten_set css i j cs (fun x hx => hl x (List.mem_cons_of_mem _ hx)) (by simpa using h) hj
    rw [List.set_cons_succ, List.flatten_cons, List.flatten_cons, ← ih]
    unfold splice
    have e : (i + 1) * k + j = c.length + (i * k + j) := by rw [Nat.succ_mul]; omega
    rw [e, List.take_length_add_append, show c.length + (i * k + j) + vs.length = c.length + (i * k + j + vs.length) by omega, List.drop_length_add_append]
    simp only [List.append_assoc]
theorem Rows.lens {α : Type} {w : World} {k : Nat} {R : World → List Value → α → Prop} : ∀ {css : List (List Value)} {l : List α}, Bx.Rows w k R css l → ∀ c ∈ css, c.length = k
  | [], [], _, c, h => by cases h
  | cs :: css, x :: l, ⟨h1, _, h3⟩, c, h => by
    rcases List.mem_cons.1 h with rfl | h
    · exact h1
    · exact Rows.lens h3 c h
theorem Rows.set {α : Type} {w : World} {k : Nat} {R : World → List Value → α → Prop} {cs : List Value} {y : α} (h1 : cs.length = k) (h2 : R w cs y) : ∀ {css : List (List Value)} {l : List α} (i : Nat), Bx.Rows w k R css l → Bx.Rows w k R (css.set i cs) (l.set i y)
  | [], [], _, _ => trivial
  | c :: css, x :: l, 0, ⟨_, _, h⟩ => ⟨h1, h2, h⟩
  | c :: css, x :: l, i + 1, ⟨a, b, h⟩ => ⟨a, b, Rows.set h1 h2 i h⟩
  | [], _ :: _, _, h => h.elim
  | _ :: _, [], _, h => h.elim
/-- The i-th part of rows. -/
theorem rows_cells {α : Type} {w w' : World} {k g : Nat} {R : World → List Value → α → Prop} {css : List (List Value)} {l : List α} (hr : Bx.Rows w k R css l) (hc : Cells w' g 0 css.flatten) {i : Nat} {cs : List Value} (hi : css[i]? = some cs) (hl : i < l.length) : Cells w' g (i * k) cs := by
  obtain ⟨c, e1, e2, _, e4⟩ := hr.get i hl
  obtain rfl := Option.some.inj (hi.symm.trans e1)
  intro j u hu
  have hj : j < k := by have := (List.getElem?_eq_some_iff.1 hu).1; omega
  have := hc (i * k + j) u (by rw [e4 j hj]; exact hu)
  rwa [Nat.zero_add] at this
section
variable {P : Program} {ops : Array Oper} {Q : Exit → Act → World → Prop} {n : Nat} {f : Fr} {S : List Nat} {w0 w w' : World} {L : List Item} {rest : List Oper} {d : Nat} {ty : TypeId} {pos : String} {af : Array Edge}
/-- append(s, x..), s a slice of the call's own, x perhaps without parts. -/
theorem sappS {t e : TypeId} {i : TypeInfo} {z : Value} {size bytes : Nat} {xs' xx : Operand} {a : Option Addr} {nn cap m c l : Nat} {ax : Option Addr} {xs news : List Value} {Lf : Item → List Item} (hS : StX S w0 w L) (hv : ev n f xs' = .slice a nn cap) (hx : ev n f xx = .slice ax m c)
    (ht : P.underlying t = some (.slice e)) (hi : P.info? e = some i) (hz : i.zero = some z) (hsize : i.size = size) (hby : i.bytes = bytes) (hzs : z.cells.size = size) (hsz : 0 < size) (hsf : ∀ w, (Go.sizeOf e).run P w = .ok size w)
    [r : AtR L (.slice a nn cap) e size l xs] [j : SetR L (.slice a nn cap) Lf] (hnews : 0 < m → ∃ b o, ax = some ⟨b, o, none⟩ ∧ Cells w b o news) (hl : news.length = m * size) (h1 : news.all (·.oneCell') = true) (h63 : l + m ≤ 9223372036854775807) (hbytes : (l + m) * bytes ≤ 140737488355328)
    (h : ∀ v' w', StX S w0 w' (Lf (rowI v' e size (l + m) (xs ++ news))) → wpL P ops Q n rest (upd f d v') w') : wpL P ops Q n (⟨some d, .call ⟨.builtin .append, #[xs', xx], #[t, t]⟩, ty, pos, af, none⟩ :: rest) f w := by
  by_cases hm : 0 < m
  · obtain ⟨b, o, rfl, hc⟩ := hnews hm
    exact sapp hS hv hx ht hi hz hsize hby hzs hsz hc hl h1 h63 hbytes h
  · obtain rfl : m = 0 := by omega
    obtain rfl : news = [] := List.eq_nil_of_length_eq_zero (by omega)
    have hr := hS.row (.slice a nn cap)
    have hcap : nn ≤ cap := by
      rcases hr.2 with ⟨e1, _⟩ | ⟨g, c', cur, e1, _, _, h4, _⟩
      · simp only [Value.slice.injEq] at e1; omega
      · simp only [Value.slice.injEq] at e1
        have := row_shape hr
        obtain ⟨a2, c2, e3⟩ := this
        simp only [Value.slice.injEq] at e3
        omega
    refine sv (yApp0 hv hx ht hsf hcap) (h _ _ ?_)
    rw [Nat.add_zero, List.append_nil]
    exact hS.app hr ⟨rfl, rfl, rfl, Nat.le_refl _, fun _ _ _ => rfl⟩ (.inl rfl)
end
/-- What a slice holds, as it is written out. -/
theorem sl_news {α : Type} {w : World} {k : Nat} {R : World → List Value → α → Prop} {a : Option Addr} {cap : Nat} {l : List α} (h : Sl w k R (.slice a l.length cap) l) : ∃ css, Bx.Rows w k R css l ∧ (0 < l.length → ∃ b o, a = some ⟨b, o, none⟩ ∧ Cells w b o css.flatten) := by
  by_cases hl : 0 < l.length
  · obtain ⟨b, o, rfl⟩ : ∃ b o, a = some ⟨b, o, none⟩ := by
      obtain ⟨a2, c, e, _, _, hel⟩ := h
      obtain ⟨rfl, rfl⟩ := slice_inj e.symm
      obtain ⟨b, o, cs, ha, _⟩ := hel 0 hl
      exact ⟨b, o, ha⟩
    obtain ⟨css, h1, h2⟩ := sl_rows h l.length (Nat.le_refl _)
    rw [List.take_length] at h1
    exact ⟨css, h1, fun _ => ⟨b, o, rfl, h2⟩⟩
  · obtain rfl : l = [] := List.eq_nil_of_length_eq_zero (by omega)
    exact ⟨[], trivial, fun hh => absurd hh hl⟩
end Bx
/- part LibE -/
namespace Bx
open Go Go.RowKit
theorem flat_len {α : Type} {enc : α → List Value} {k : Nat} (hk : ∀ x, (enc x).length = k) : ∀ l : List α, (l.flatMap enc).length = l.length * k
  | [] => by simp
  | x :: l => by rw [List.flatMap_cons, List.length_append, hk, flat_len hk l, List.length_cons, Nat.succ_mul]; omega
theorem gap_outG {α : Type} {enc : α → List Value} {k : Nat} (hk : ∀ x, (enc x).length = k) {ks js l : List α} {j : Nat} {x : α} (hx : l[j]? = some x) (hne : js ≠ []) : ((ks ++ [x]) ++ (js.tail ++ [x]) ++ l.drop (j + 1)).flatMap enc = splice ((ks ++ js ++ l.drop j).flatMap enc) (ks.length * k) (enc x) := by
  obtain ⟨y, js, rfl⟩ := List.exists_cons_of_ne_nil hne
  have hd : l.drop j = x :: l.drop (j + 1) := by
    obtain ⟨h, rfl⟩ := List.getElem?_eq_some_iff.1 hx
    exact List.drop_eq_getElem_cons h
  rw [splice_enc hk _ _ _ (by simp)]
  congr 1
  rw [hd]
  simp [List.set_append]
theorem take_flatG {α : Type} {enc : α → List Value} {k : Nat} (hk : ∀ x, (enc x).length = k) (ks r : List α) : ((ks ++ r).flatMap enc).take (ks.length * k) = ks.flatMap enc := by
  rw [List.flatMap_append, List.take_left']
  exact flat_len hk ks
section
variable {P : Program} {ρ : Operand → Value} {w : World} {ty : TypeId}
/-- The parts from i to j, the room cut at m. -/
theorem ySl3 {T E : TypeId} {x xi xj xm : Operand} {a : Option Addr} {cap i j m k n : Nat} {k1 k2 k3 : IntKind} (hx : ρ x = .slice a n cap) (hi : ρ xi = .int k1 (i : Int)) (hj : ρ xj = .int k2 (j : Int)) (hm : ρ xm = .int k3 (m : Int)) (hu : P.underlying T = some (.slice E)) (hs : ∀ w, (Go.sizeOf E).run P w = .ok k w) (h1 : i ≤ j) (h2 : j ≤ m) (h3 : m ≤ cap) :
    ∃ v, Y P ρ (.slice T x (some xi) (some xj) (some xm)) ty w v w := by
  have b1 : (0 : Int) ≤ (m : Int) ∧ (m : Int) ≤ (cap : Int) := ⟨by omega, by omega⟩
  have b2 : (0 : Int) ≤ (j : Int) ∧ (j : Int) ≤ (m : Int) := ⟨by omega, by omega⟩
  have b3 : (0 : Int) ≤ (i : Int) ∧ (i : Int) ≤ (j : Int) := ⟨by omega, by omega⟩
  refine ⟨.slice (if m = i then a else a.map (·.add (i * k))) (j - i) (m - i), ?_⟩
  simp only [Y, xop, execOp, Option.map_some, Option.map_none, hx, hi, hj, hm, Instr.sliceAt, run_underlying hu, Sem.run_bind, Result.andThen_ok, Instr.slice, Instr.sliceBounds, Instr.sliceBound, asIntOf, Sem.run_pure, Sem.run_ite, b1, b2, b3, and_self, if_true, hs, Int.toNat_natCast]
/-- The parts from i to j, perhaps behind the slice's end. -/
theorem yMid {T E : TypeId} {x xi xj : Operand} {g cap i j k m : Nat} {k1 k2 : IntKind} (hx : ρ x = .slice (some ⟨g, 0, none⟩) m cap) (hi : ρ xi = .int k1 (i : Int)) (hj : ρ xj = .int k2 (j : Int)) (hu : P.underlying T = some (.slice E)) (hs : ∀ w, (Go.sizeOf E).run P w = .ok k w) (h1 : i ≤ j) (h2 : j ≤ cap) :
    Y P ρ (.slice T x (some xi) (some xj) none) ty w (tailV g cap i k j) w := by
  have b2 : (0 : Int) ≤ (j : Int) ∧ (j : Int) ≤ (cap : Int) := ⟨by omega, by omega⟩
  have b3 : (0 : Int) ≤ (i : Int) ∧ (i : Int) ≤ (j : Int) := ⟨by omega, by omega⟩
  have h1' : (⟨g, 0, none⟩ : Addr).add (i * k) = ⟨g, i * k, none⟩ := by rw [addr_add]; simp
  have h0 : ∀ a : Addr, a.add (0 * k) = a := fun a => by rw [Nat.zero_mul]; rfl
  simp only [Y, xop, execOp, Option.map_some, Option.map_none, hx, hi, hj, Instr.sliceAt, run_underlying hu, Sem.run_bind, Result.andThen_ok, Instr.slice, Instr.sliceBounds, Instr.sliceBound, asIntOf, Sem.run_pure, Sem.run_ite, b2, b3, and_self, if_true, hs, Int.toNat_natCast, tailV, h1', Option.map_some]
end
section
variable {P : Program} {ops : Array Oper} {Q : Exit → Act → World → Prop} {n : Nat} {f : Fr} {S : List Nat} {w0 w w' : World} {L : List Item} {rest : List Oper} {d : Nat} {ty : TypeId} {pos : String} {af : Array Edge}
theorem s3 {T E : TypeId} {x xi xj xm : Operand} {a : Option Addr} {cap i j m k q : Nat} {k1 k2 k3 : IntKind} (hx : ev n f x = .slice a q cap) (hi : ev n f xi = .int k1 (i : Int)) (hj : ev n f xj = .int k2 (j : Int)) (hm : ev n f xm = .int k3 (m : Int)) (hu : P.underlying T = some (.slice E)) (hs : ∀ w, (Go.sizeOf E).run P w = .ok k w) (h1 : i ≤ j) (h2 : j ≤ m) (h3 : m ≤ cap)
    (h : ∀ v, wpL P ops Q n rest (upd f d v) w) : wpL P ops Q n (⟨some d, .slice T x (some xi) (some xj) (some xm), ty, pos, af, none⟩ :: rest) f w := by
  obtain ⟨v, hv⟩ := ySl3 (ty := ty) (w := w) hx hi hj hm hu hs h1 h2 h3
  exact sv hv (h v)
/-- append(s[:i], s[j:]..), s a slice of the call's own. -/
theorem sappIn {t e : TypeId} {ti : TypeInfo} {size : Nat} {xs' xx : Operand} {g cap i j m : Nat} {xs : List Value} {Lf : Item → List Item} (hS : StX S w0 w L) (hv : ev n f xs' = .slice (some ⟨g, 0, none⟩) i cap) (hx : ev n f xx = tailV g cap j size m)
    (ht : P.underlying t = some (.slice e)) (hi : P.info? e = some ti) (hsize : ti.size = size) [r : AtR L (.slice (some ⟨g, 0, none⟩) m cap) e size m xs] [q : SetR L (.slice (some ⟨g, 0, none⟩) m cap) Lf] (hij : i ≤ j) (hjm : j ≤ m) (h1 : xs.all (·.oneCell') = true)
    (h : ∀ w', StX S w0 w' (Lf (rowI (.slice (some ⟨g, 0, none⟩) m cap) e size m (splice xs (i * size) (xs.drop (j * size))))) → wpL P ops Q n rest (upd f d (.slice (some ⟨g, 0, none⟩) (i + (m - j)) cap)) w') : wpL P ops Q n (⟨some d, .call ⟨.builtin .append, #[xs', xx], #[t, t]⟩, ty, pos, af, none⟩ :: rest) f w := by
  have hr := hS.row (.slice (some ⟨g, 0, none⟩) m cap)
  obtain ⟨hxl, hr2⟩ := id hr
  rcases hr2 with ⟨e0, _⟩ | ⟨g', cap', cur, e0, -, hg, hnc, hcm, hcs, htk⟩
  · cases e0
  obtain ⟨e1, rfl⟩ := slice_inj e0.symm
  cases e1
  subst hsize
  have hcl : cur.toList.length = cap * ti.size := by simpa using hcs
  have hmc : m * ti.size ≤ cap * ti.size := Nat.mul_le_mul_right _ hnc
  have hjs : j * ti.size ≤ m * ti.size := Nat.mul_le_mul_right _ hjm
  have his : i * ti.size ≤ j * ti.size := Nat.mul_le_mul_right _ hij
  have hnl : (xs.drop (j * ti.size)).length = (m - j) * ti.size := by rw [List.length_drop, hxl, Nat.sub_mul]
  have hsum : j * ti.size + (m - j) * ti.size = m * ti.size := by rw [← Nat.add_mul]; congr 1; omega
  obtain ⟨aa, ha, hnews⟩ : ∃ aa : Addr, (if cap = j then some ⟨g, 0, none⟩ else some ⟨g, j * ti.size, none⟩ : Option Addr) = some aa ∧ ∀ q u, (xs.drop (j * ti.size))[q]? = some u → w.cell? (aa.add q) = some u := by
    by_cases hc : cap = j
    · refine ⟨⟨g, 0, none⟩, if_pos hc, fun q u hq => ?_⟩
      have : (xs.drop (j * ti.size)).length = 0 := by rw [hnl, show m - j = 0 by omega, Nat.zero_mul]
      rw [List.getElem?_eq_none (by omega)] at hq
      cases hq
    · refine ⟨⟨g, j * ti.size, none⟩, if_neg hc, fun q u hq => ?_⟩
      rw [List.getElem?_drop] at hq
      have hc := hr.cells (g := g) rfl
      have := hc (j * ti.size + q) u hq
      rw [addr_add] at this ⊢
      simpa using this
  have hfit : i * ti.size + (xs.drop (j * ti.size)).length ≤ cur.size := by rw [hnl, hcs]; omega
  have hrun := run_append_room (P := P) w t ty e ti ht hi g i cap cur hg aa (m - j) (cap - j) (xs.drop (j * ti.size)) hnl hnews (fun u hu => List.all_eq_true.1 h1 u (List.mem_of_mem_drop hu)) (by omega) hfit
  refine sv (v := .slice (some ⟨g, 0, none⟩) (i + (m - j)) cap) (w' := w.setRow g (cur.toList.take (i * ti.size) ++ xs.drop (j * ti.size) ++ cur.toList.drop (i * ti.size + (xs.drop (j * ti.size)).length)).toArray) ?_ (h _ ?_)
  · rw [tailV, ha] at hx
    simp [Y, xop, execOp, resolve, invoke, builtin, hv, hx, hrun]
  · have hsp : cur.toList.take (i * ti.size) ++ xs.drop (j * ti.size) ++ cur.toList.drop (i * ti.size + (xs.drop (j * ti.size)).length) = splice cur.toList (i * ti.size) (xs.drop (j * ti.size)) := by simp [splice]
    rw [hsp]
    refine hS.app (v := .slice (some ⟨g, 0, none⟩) m cap) (v' := .slice (some ⟨g, 0, none⟩) m cap) ⟨?_, .inr ⟨g, cap, (splice cur.toList (i * ti.size) (xs.drop (j * ti.size))).toArray, rfl, Nat.zero_le _, setRow_heap w g cur _ e _ hg, hnc, hcm, ?_, ?_⟩⟩ ⟨rfl, rfl, rfl, by simp, fun k _ hk => setRow_other w g k _ (fun e => hk (by simp [Value.ownBlock, e]))⟩ (.inl rfl)
    · rw [splice_len _ _ _ (by rw [hxl, hnl]; omega), hxl]
    · rw [List.size_toArray, splice_len _ _ _ (by rw [hcl, hnl]; omega), hcl]
    · rw [List.toList_toArray, splice_take (by rw [hnl]; omega) (by rw [hcl]; exact hmc), htk]
variable {L' : List Item} {κ : Type} [DecidableEq κ]
/-- A part of a map's literal. -/
theorem sins (enc : κ → Value) {T K E : TypeId} {xm xk xv : Operand} {b : Nat} {m : List (κ × Value)} {k : κ} {v : Value} (hS : StX S w0 w L) (hm : ev n f xm = .map (some b)) (hx : ev n f xk = enc k) (hv : ev n f xv = v) (hT : ∀ w, (underlying T).run P w = .ok (.map K E) w)
    (hk : KeyOk P K enc) [i : AtB L b (MapOk enc m)] [j : SetB L b (MapOk enc (setM m k v)) L'] (h : ∀ w', StX S w0 w' L' → wpL P ops Q n rest f w') : wpL P ops Q n (⟨none, .insert T xm xk xv, ty, pos, af, none⟩ :: rest) f w := by
  obtain ⟨o', w', hr, hp, ho⟩ := run_mapUpdate (k := k) (v := v) hT hk (hS.is b)
  refine wpL_skip (w' := w') ?_ (h w' (hS.puts hp ho))
  simp [xop, execOp, hm, hx, hv, hr]
end
section
variable {P : Program} {ρ : Operand → Value} {w : World} {ty : TypeId}
theorem lookJ {op : Op} {g : Option Value} {b : Option Int} (h : Y P ρ op ty w (.tuple #[g.getD (.int .i64 0), .bool g.isSome]) w) (hg : g = b.map (Value.int .i64)) : Y P ρ op ty w (.tuple #[.int .i64 (b.getD 0), .bool b.isSome]) w := by
  subst hg
  cases b <;> exact h
end
end Bx
/- part LibM -/
namespace Bx
open Go Go.RowKit
def WOk {H : Type} (P : Program) (t : TypeId) (d : DataW H) : Prop := ∀ n ∈ d.weights P t, n ≤ 140737488351232
def RdW {α : Type} (P : Program) (t : TypeId) (R : World → List Value → α → Prop) : Prop :=
  ∀ (H : Type) (enc : TypeId × Value → H) (w : World) (base : Nat) (spare : Nat → Bool) (held : Bool) (fuel : Nat) (cs : List Value) (x : DataW H × List MemPlace), DataW.trod enc P w base spare held fuel t cs = some x → WOk P t x.1 → ∃ a, R w cs a
theorem Rd.w {α : Type} {P : Program} {t : TypeId} {R : World → List Value → α → Prop} (h : Rd P t R) : RdW P t R := fun H enc w base spare held fuel cs x hx _ => h H enc w base spare held fuel cs x hx
section
variable {P : Program} {t e : TypeId}
theorem weightsAll_mem {H : Type} {P : Program} {e : TypeId} : ∀ {l : List (DataW H)} {d : DataW H}, d ∈ l → ∀ n ∈ d.weights P e, n ∈ DataW.weightsAll P e l
  | a :: l, d, hd, n, hn => by
    unfold DataW.weightsAll
    rcases List.mem_cons.1 hd with rfl | hd
    · exact List.mem_append_left _ hn
    · exact List.mem_append_right _ (weightsAll_mem hd n hn)
theorem rdw_slice {α : Type} {R : World → List Value → α → Prop} {k bytes : Nat} (hR : RdW P e R) (hk : P.cellsOf e = k) (h0 : 0 < k) (ht : P.underlying t = some (.slice e)) (hb : P.bytesOf e = bytes) : RdW P t (fun w cs (l : List α) => ∃ v, cs = [v] ∧ Sl w k R v l ∧ l.length * bytes ≤ 140737488351232) := by
  intro H enc w base spare held fuel cs x h hW
  rcases Deep.open_slice ht h with ⟨rfl, _⟩ | ⟨a, len, cap, m, n, D, Pl, rfl, _, hl, hm, hmm, rfl, hx⟩
  · exact ⟨[], _, rfl, Sl.nil, by simp⟩
  · have hlm : len ≤ m := by rw [hmm]; split <;> omega
    rw [hk] at hx
    unfold WOk at hW
    simp only [DataW.weights, ht] at hW
    have hbd := hW _ (List.mem_cons_self ..)
    have hel : ∀ i, i < len → WOk P e (D i) := fun i hi n hn => hW n (List.mem_cons_of_mem _ (List.mem_append_left _ (weightsAll_mem (List.mem_map.2 ⟨i, List.mem_range.2 hi, rfl⟩) n hn)))
    obtain ⟨l, hll, hp⟩ := list_of (p := fun i x => ∃ cs, w.cells? base (a.add (i * k)) k = some cs ∧ R w cs x) len (fun i hi => by
      obtain ⟨cs, h1, h2⟩ := hx i (by omega)
      obtain ⟨y, hy⟩ := hR H enc w base spare held n cs _ h2 (hel i hi)
      exact ⟨y, cs, h1, hy⟩)
    refine ⟨l, _, rfl, ⟨some a, cap, by rw [hll], by omega, by simp only [maxLen] at hm; omega, fun i hi => ?_⟩, ?_⟩
    · obtain ⟨cs, h1, h2⟩ := hp i hi
      obtain ⟨cs0, h01, _⟩ := hp 0 (by omega)
      obtain ⟨_, hl0, hc0⟩ := World.cells?_some h01
      have ha := addr_of ((hc0 0 h0).trans (List.getElem?_eq_getElem (by omega)))
      obtain ⟨_, hlc, hc⟩ := World.cells?_some h1
      obtain ⟨b, o, s⟩ := a
      have hs : s = none := by
        have : (0 : Nat) * k = 0 := Nat.zero_mul k
        simp only [this, Addr.add, if_true] at ha
        simpa using ha
      subst hs
      refine ⟨b, o, cs, rfl, hlc, fun j v hv => ?_, h2⟩
      have hj : j < k := by have := (List.getElem?_eq_some_iff.1 hv).1; omega
      have := (hc j hj).trans hv
      rwa [addr_add, addr_add] at this
    · rw [hll, ← hb]
      refine Nat.le_trans ?_ hbd
      exact Nat.mul_le_mul_right _ (by simp)
theorem rdw_fields {H : Type} {enc : TypeId × Value → H} {w : World} {base : Nat} {spare : Nat → Bool} {held : Bool} {fuel : Nat} {cs : List Value} {x : DataW H × List MemPlace} {fs : Array Field} (ht : P.underlying t = some (.struct fs)) (h : DataW.trod enc P w base spare held fuel t cs = some x) (hW : WOk P t x.1) :
    cs.length = P.cellsOf t ∧ ∃ n, ∀ (i : Nat) (f : Field), fs[i]? = some f → ∃ y, DataW.trod enc P w base spare held n f.type ((cs.drop f.offset).take (P.cellsOf f.type)) = some y ∧ WOk P f.type y.1 := by
  obtain ⟨xs, n, _, rfl, hl, hxs, hf⟩ := DataW.trod_struct ht h
  refine ⟨hl, n, fun i f hi => ?_⟩
  have h1 := (Array.getElem?_eq_some_iff.1 hi).1
  have hix : i < xs.length := by omega
  refine ⟨xs[i], (hf i f hi).trans (List.getElem?_eq_getElem hix), fun m hm => hW m ?_⟩
  simp only [DataW.weights, ht]
  exact DataW.weights_mem_each (j := i) (t := f.type) (d := xs[i].1) (by simp [hi]) (by simp [hix]) m hm
end
end Bx
/- part P1 -/
/- Plain laws on names. -/
namespace Bx
/-- The byte at i may stand there in a name. -/
def okAt (s : ByteArray) (i : Nat) : Prop := ∀ h : i < s.size, (97 ≤ s[i].toNat ∧ s[i].toNat ≤ 122) ∨ (0 < i ∧ (s[i].toNat = 45 ∨ 48 ≤ s[i].toNat ∧ s[i].toNat ≤ 57))
instance (s : ByteArray) (i : Nat) : Decidable (okAt s i) := by unfold okAt; infer_instance
def isName (s : ByteArray) : Bool := decide (1 ≤ s.size ∧ s.size ≤ 24 ∧ ∀ i, i < s.size → okAt s i)
theorem okAt_of (s : ByteArray) (i : Nat) (h : i < s.size) : okAt s i ↔ (97 ≤ s[i].toNat ∧ s[i].toNat ≤ 122) ∨ (0 < i ∧ (s[i].toNat = 45 ∨ 48 ≤ s[i].toNat ∧ s[i].toNat ≤ 57)) := ⟨fun k => k h, fun k _ => k⟩
theorem isName_bad (s : ByteArray) (k : Nat) (h : k < s.size) (hb : ¬ okAt s k) : isName s = false := by
  unfold isName
  rw [decide_eq_false_iff_not]
  exact fun ⟨_, _, h3⟩ => hb (h3 k h)
theorem isName_size (s : ByteArray) (h : ¬ (1 ≤ (s.size : Int) ∧ (s.size : Int) ≤ 24)) : isName s = false := by
  unfold isName
  rw [decide_eq_false_iff_not]
  exact fun ⟨h1, h2, _⟩ => h (by omega)
theorem isName_good (s : ByteArray) (h1 : 1 ≤ (s.size : Int)) (h2 : (s.size : Int) ≤ 24) (h : ∀ i, i < s.size → okAt s i) : isName s = true := by
  unfold isName
  rw [decide_eq_true_eq]
  exact ⟨by omega, by omega, h⟩
theorem isName_end (s : ByteArray) (h : ∀ i, i < s.size → okAt s i) : isName s = (decide (s ≠ ⟨#[]⟩) && decide ((s.size : Int) ≤ 24)) := by
  have e : s ≠ ⟨#[]⟩ ↔ 1 ≤ s.size := by
    constructor
    · intro hn
      rcases Nat.eq_zero_or_pos s.size with h0 | h0
      · exact absurd (ByteArray.ext (Array.eq_empty_of_size_eq_zero h0)) hn
      · exact h0
    · rintro h1 rfl
      exact absurd h1 (by decide)
  unfold isName
  rw [Bool.eq_iff_iff]
  simp only [decide_eq_true_eq, Bool.and_eq_true, e]
  constructor
  · rintro ⟨h1, h2, _⟩
    exact ⟨h1, by omega⟩
  · rintro ⟨h1, h2⟩
    exact ⟨h1, by omega, h⟩
end Bx
/- part TypesB -/
namespace Go.Proofs.YtmoilbakmlekbaaGreatDoor
open Go Bx
variable {ρ : Operand → Value} {w : World} {ty : TypeId}
theorem mixed : Tryz.prog.follows .mixedOrders = true := by kernel_rfl
theorem fa26_0 {x : Operand} {b o : Nat} (hx : ρ x = .pointer (some ⟨b, o, none⟩)) : Y Tryz.prog ρ (.fieldAddr 26 x 0) ty w (.pointer (some ⟨b, o + 0, none⟩)) w := yFA hx Tryz.runUnderlying26 rfl rfl Tryz.sizeOf3 (by decide)
theorem fa26_1 {x : Operand} {b o : Nat} (hx : ρ x = .pointer (some ⟨b, o, none⟩)) : Y Tryz.prog ρ (.fieldAddr 26 x 1) ty w (.pointer (some ⟨b, o + 1, none⟩)) w := yFA hx Tryz.runUnderlying26 rfl rfl Tryz.sizeOf22 (by decide)
theorem fa26_2 {x : Operand} {b o : Nat} (hx : ρ x = .pointer (some ⟨b, o, none⟩)) : Y Tryz.prog ρ (.fieldAddr 26 x 2) ty w (.pointer (some ⟨b, o + 2, none⟩)) w := yFA hx Tryz.runUnderlying26 rfl rfl Tryz.sizeOf23 (by decide)
theorem fa26_3 {x : Operand} {b o : Nat} (hx : ρ x = .pointer (some ⟨b, o, none⟩)) : Y Tryz.prog ρ (.fieldAddr 26 x 3) ty w (.pointer (some ⟨b, o + 3, none⟩)) w := yFA hx Tryz.runUnderlying26 rfl rfl Tryz.sizeOf24 (by decide)
theorem pl26 : Places Tryz.prog 26 #[(0, 1), (1, 1), (2, 1), (3, 1)] := ⟨_, Tryz.underlying26, fun w => by simp [Tryz.sizeOf3, Tryz.sizeOf22, Tryz.sizeOf23, Tryz.sizeOf24]⟩
theorem fa36_0 {x : Operand} {b o : Nat} (hx : ρ x = .pointer (some ⟨b, o, none⟩)) : Y Tryz.prog ρ (.fieldAddr 36 x 0) ty w (.pointer (some ⟨b, o + 0, none⟩)) w := yFA hx Tryz.runUnderlying36 rfl rfl Tryz.sizeOf9 (by decide)
theorem fa36_1 {x : Operand} {b o : Nat} (hx : ρ x = .pointer (some ⟨b, o, none⟩)) : Y Tryz.prog ρ (.fieldAddr 36 x 1) ty w (.pointer (some ⟨b, o + 1, none⟩)) w := yFA hx Tryz.runUnderlying36 rfl rfl Tryz.sizeOf3 (by decide)
theorem fa36_2 {x : Operand} {b o : Nat} (hx : ρ x = .pointer (some ⟨b, o, none⟩)) : Y Tryz.prog ρ (.fieldAddr 36 x 2) ty w (.pointer (some ⟨b, o + 2, none⟩)) w := yFA hx Tryz.runUnderlying36 rfl rfl Tryz.sizeOf3 (by decide)
theorem fa36_3 {x : Operand} {b o : Nat} (hx : ρ x = .pointer (some ⟨b, o, none⟩)) : Y Tryz.prog ρ (.fieldAddr 36 x 3) ty w (.pointer (some ⟨b, o + 3, none⟩)) w := yFA hx Tryz.runUnderlying36 rfl rfl Tryz.sizeOf3 (by decide)
theorem fa36_4 {x : Operand} {b o : Nat} (hx : ρ x = .pointer (some ⟨b, o, none⟩)) : Y Tryz.prog ρ (.fieldAddr 36 x 4) ty w (.pointer (some ⟨b, o + 4, none⟩)) w := yFA hx Tryz.runUnderlying36 rfl rfl Tryz.sizeOf34 (by decide)
theorem pl36 : Places Tryz.prog 36 #[(0, 1), (1, 1), (2, 1), (3, 1), (4, 1)] := ⟨_, Tryz.underlying36, fun w => by simp [Tryz.sizeOf3, Tryz.sizeOf9, Tryz.sizeOf34]⟩
theorem fa38_0 {x : Operand} {b o : Nat} (hx : ρ x = .pointer (some ⟨b, o, none⟩)) : Y Tryz.prog ρ (.fieldAddr 38 x 0) ty w (.pointer (some ⟨b, o + 0, none⟩)) w := yFA hx Tryz.runUnderlying38 rfl rfl Tryz.sizeOf3 (by decide)
theorem fa38_1 {x : Operand} {b o : Nat} (hx : ρ x = .pointer (some ⟨b, o, none⟩)) : Y Tryz.prog ρ (.fieldAddr 38 x 1) ty w (.pointer (some ⟨b, o + 1, none⟩)) w := yFA hx Tryz.runUnderlying38 rfl rfl Tryz.sizeOf3 (by decide)
theorem fa38_2 {x : Operand} {b o : Nat} (hx : ρ x = .pointer (some ⟨b, o, none⟩)) : Y Tryz.prog ρ (.fieldAddr 38 x 2) ty w (.pointer (some ⟨b, o + 2, none⟩)) w := yFA hx Tryz.runUnderlying38 rfl rfl Tryz.sizeOf3 (by decide)
theorem pl38 : Places Tryz.prog 38 #[(0, 1), (1, 1), (2, 1)] := ⟨_, Tryz.underlying38, fun w => by simp [Tryz.sizeOf3]⟩
theorem fa41_0 {x : Operand} {b o : Nat} (hx : ρ x = .pointer (some ⟨b, o, none⟩)) : Y Tryz.prog ρ (.fieldAddr 41 x 0) ty w (.pointer (some ⟨b, o + 0, none⟩)) w := yFA hx Tryz.runUnderlying41 rfl rfl Tryz.sizeOf9 (by decide)
theorem fa41_1 {x : Operand} {b o : Nat} (hx : ρ x = .pointer (some ⟨b, o, none⟩)) : Y Tryz.prog ρ (.fieldAddr 41 x 1) ty w (.pointer (some ⟨b, o + 1, none⟩)) w := yFA hx Tryz.runUnderlying41 rfl rfl Tryz.sizeOf3 (by decide)
theorem fa41_2 {x : Operand} {b o : Nat} (hx : ρ x = .pointer (some ⟨b, o, none⟩)) : Y Tryz.prog ρ (.fieldAddr 41 x 2) ty w (.pointer (some ⟨b, o + 2, none⟩)) w := yFA hx Tryz.runUnderlying41 rfl rfl Tryz.sizeOf3 (by decide)
theorem pl41 : Places Tryz.prog 41 #[(0, 1), (1, 1), (2, 1)] := ⟨_, Tryz.underlying41, fun w => by simp [Tryz.sizeOf3, Tryz.sizeOf9]⟩
theorem fa44_0 {x : Operand} {b o : Nat} (hx : ρ x = .pointer (some ⟨b, o, none⟩)) : Y Tryz.prog ρ (.fieldAddr 44 x 0) ty w (.pointer (some ⟨b, o + 0, none⟩)) w := yFA hx Tryz.runUnderlying44 rfl rfl Tryz.sizeOf3 (by decide)
theorem fa44_1 {x : Operand} {b o : Nat} (hx : ρ x = .pointer (some ⟨b, o, none⟩)) : Y Tryz.prog ρ (.fieldAddr 44 x 1) ty w (.pointer (some ⟨b, o + 1, none⟩)) w := yFA hx Tryz.runUnderlying44 rfl rfl Tryz.sizeOf3 (by decide)
theorem pl44 : Places Tryz.prog 44 #[(0, 1), (1, 1)] := ⟨_, Tryz.underlying44, fun w => by simp [Tryz.sizeOf3]⟩
theorem fa54_0 {x : Operand} {b o : Nat} (hx : ρ x = .pointer (some ⟨b, o, none⟩)) : Y Tryz.prog ρ (.fieldAddr 54 x 0) ty w (.pointer (some ⟨b, o + 0, none⟩)) w := yFA hx Tryz.runUnderlying54 rfl rfl Tryz.sizeOf5 (by decide)
theorem fa54_1 {x : Operand} {b o : Nat} (hx : ρ x = .pointer (some ⟨b, o, none⟩)) : Y Tryz.prog ρ (.fieldAddr 54 x 1) ty w (.pointer (some ⟨b, o + 1, none⟩)) w := yFA hx Tryz.runUnderlying54 rfl rfl Tryz.sizeOf5 (by decide)
theorem fa54_2 {x : Operand} {b o : Nat} (hx : ρ x = .pointer (some ⟨b, o, none⟩)) : Y Tryz.prog ρ (.fieldAddr 54 x 2) ty w (.pointer (some ⟨b, o + 2, none⟩)) w := yFA hx Tryz.runUnderlying54 rfl rfl Tryz.sizeOf5 (by decide)
theorem fa54_3 {x : Operand} {b o : Nat} (hx : ρ x = .pointer (some ⟨b, o, none⟩)) : Y Tryz.prog ρ (.fieldAddr 54 x 3) ty w (.pointer (some ⟨b, o + 3, none⟩)) w := yFA hx Tryz.runUnderlying54 rfl rfl Tryz.sizeOf52 (by decide)
theorem pl54 : Places Tryz.prog 54 #[(0, 1), (1, 1), (2, 1), (3, 1)] := ⟨_, Tryz.underlying54, fun w => by simp [Tryz.sizeOf5, Tryz.sizeOf52]⟩
theorem fa70_0 {x : Operand} {b o : Nat} (hx : ρ x = .pointer (some ⟨b, o, none⟩)) : Y Tryz.prog ρ (.fieldAddr 70 x 0) ty w (.pointer (some ⟨b, o + 0, none⟩)) w := yFA hx Tryz.runUnderlying70 rfl rfl Tryz.sizeOf3 (by decide)
theorem fa70_1 {x : Operand} {b o : Nat} (hx : ρ x = .pointer (some ⟨b, o, none⟩)) : Y Tryz.prog ρ (.fieldAddr 70 x 1) ty w (.pointer (some ⟨b, o + 1, none⟩)) w := yFA hx Tryz.runUnderlying70 rfl rfl Tryz.sizeOf3 (by decide)
theorem fa70_2 {x : Operand} {b o : Nat} (hx : ρ x = .pointer (some ⟨b, o, none⟩)) : Y Tryz.prog ρ (.fieldAddr 70 x 2) ty w (.pointer (some ⟨b, o + 2, none⟩)) w := yFA hx Tryz.runUnderlying70 rfl rfl Tryz.sizeOf3 (by decide)
theorem fa70_3 {x : Operand} {b o : Nat} (hx : ρ x = .pointer (some ⟨b, o, none⟩)) : Y Tryz.prog ρ (.fieldAddr 70 x 3) ty w (.pointer (some ⟨b, o + 3, none⟩)) w := yFA hx Tryz.runUnderlying70 rfl rfl Tryz.sizeOf3 (by decide)
theorem fa70_4 {x : Operand} {b o : Nat} (hx : ρ x = .pointer (some ⟨b, o, none⟩)) : Y Tryz.prog ρ (.fieldAddr 70 x 4) ty w (.pointer (some ⟨b, o + 4, none⟩)) w := yFA hx Tryz.runUnderlying70 rfl rfl Tryz.sizeOf3 (by decide)
theorem pl70 : Places Tryz.prog 70 #[(0, 1), (1, 1), (2, 1), (3, 1), (4, 1)] := ⟨_, Tryz.underlying70, fun w => by simp [Tryz.sizeOf3]⟩
theorem fa85_0 {x : Operand} {b o : Nat} (hx : ρ x = .pointer (some ⟨b, o, none⟩)) : Y Tryz.prog ρ (.fieldAddr 85 x 0) ty w (.pointer (some ⟨b, o + 0, none⟩)) w := yFA hx Tryz.runUnderlying85 rfl rfl Tryz.sizeOf82 (by decide)
theorem fa85_1 {x : Operand} {b o : Nat} (hx : ρ x = .pointer (some ⟨b, o, none⟩)) : Y Tryz.prog ρ (.fieldAddr 85 x 1) ty w (.pointer (some ⟨b, o + 1, none⟩)) w := yFA hx Tryz.runUnderlying85 rfl rfl Tryz.sizeOf3 (by decide)
theorem fa85_2 {x : Operand} {b o : Nat} (hx : ρ x = .pointer (some ⟨b, o, none⟩)) : Y Tryz.prog ρ (.fieldAddr 85 x 2) ty w (.pointer (some ⟨b, o + 2, none⟩)) w := yFA hx Tryz.runUnderlying85 rfl rfl Tryz.sizeOf3 (by decide)
theorem fa85_3 {x : Operand} {b o : Nat} (hx : ρ x = .pointer (some ⟨b, o, none⟩)) : Y Tryz.prog ρ (.fieldAddr 85 x 3) ty w (.pointer (some ⟨b, o + 3, none⟩)) w := yFA hx Tryz.runUnderlying85 rfl rfl Tryz.sizeOf3 (by decide)
theorem fa85_4 {x : Operand} {b o : Nat} (hx : ρ x = .pointer (some ⟨b, o, none⟩)) : Y Tryz.prog ρ (.fieldAddr 85 x 4) ty w (.pointer (some ⟨b, o + 4, none⟩)) w := yFA hx Tryz.runUnderlying85 rfl rfl Tryz.sizeOf83 (by decide)
theorem pl85 : Places Tryz.prog 85 #[(0, 1), (1, 1), (2, 1), (3, 1), (4, 1)] := ⟨_, Tryz.underlying85, fun w => by simp [Tryz.sizeOf3, Tryz.sizeOf82, Tryz.sizeOf83]⟩
theorem fa87_0 {x : Operand} {b o : Nat} (hx : ρ x = .pointer (some ⟨b, o, none⟩)) : Y Tryz.prog ρ (.fieldAddr 87 x 0) ty w (.pointer (some ⟨b, o + 0, none⟩)) w := yFA hx Tryz.runUnderlying87 rfl rfl Tryz.sizeOf3 (by decide)
theorem fa87_1 {x : Operand} {b o : Nat} (hx : ρ x = .pointer (some ⟨b, o, none⟩)) : Y Tryz.prog ρ (.fieldAddr 87 x 1) ty w (.pointer (some ⟨b, o + 1, none⟩)) w := yFA hx Tryz.runUnderlying87 rfl rfl Tryz.sizeOf34 (by decide)
theorem pl87 : Places Tryz.prog 87 #[(0, 1), (1, 1)] := ⟨_, Tryz.underlying87, fun w => by simp [Tryz.sizeOf3, Tryz.sizeOf34]⟩
theorem fa90_0 {x : Operand} {b o : Nat} (hx : ρ x = .pointer (some ⟨b, o, none⟩)) : Y Tryz.prog ρ (.fieldAddr 90 x 0) ty w (.pointer (some ⟨b, o + 0, none⟩)) w := yFA hx Tryz.runUnderlying90 rfl rfl Tryz.sizeOf85 (by decide)
theorem fa90_1 {x : Operand} {b o : Nat} (hx : ρ x = .pointer (some ⟨b, o, none⟩)) : Y Tryz.prog ρ (.fieldAddr 90 x 1) ty w (.pointer (some ⟨b, o + 5, none⟩)) w := yFA hx Tryz.runUnderlying90 rfl rfl Tryz.sizeOf87 (by decide)
theorem fa90_2 {x : Operand} {b o : Nat} (hx : ρ x = .pointer (some ⟨b, o, none⟩)) : Y Tryz.prog ρ (.fieldAddr 90 x 2) ty w (.pointer (some ⟨b, o + 7, none⟩)) w := yFA hx Tryz.runUnderlying90 rfl rfl Tryz.sizeOf3 (by decide)
theorem fa90_3 {x : Operand} {b o : Nat} (hx : ρ x = .pointer (some ⟨b, o, none⟩)) : Y Tryz.prog ρ (.fieldAddr 90 x 3) ty w (.pointer (some ⟨b, o + 8, none⟩)) w := yFA hx Tryz.runUnderlying90 rfl rfl Tryz.sizeOf88 (by decide)
theorem pl90 : Places Tryz.prog 90 #[(0, 5), (5, 2), (7, 1), (8, 1)] := ⟨_, Tryz.underlying90, fun w => by simp [Tryz.sizeOf3, Tryz.sizeOf85, Tryz.sizeOf87, Tryz.sizeOf88]⟩
theorem fa96_0 {x : Operand} {b o : Nat} (hx : ρ x = .pointer (some ⟨b, o, none⟩)) : Y Tryz.prog ρ (.fieldAddr 96 x 0) ty w (.pointer (some ⟨b, o + 0, none⟩)) w := yFA hx Tryz.runUnderlying96 rfl rfl Tryz.sizeOf3 (by decide)
theorem fa96_1 {x : Operand} {b o : Nat} (hx : ρ x = .pointer (some ⟨b, o, none⟩)) : Y Tryz.prog ρ (.fieldAddr 96 x 1) ty w (.pointer (some ⟨b, o + 1, none⟩)) w := yFA hx Tryz.runUnderlying96 rfl rfl Tryz.sizeOf3 (by decide)
theorem fa96_2 {x : Operand} {b o : Nat} (hx : ρ x = .pointer (some ⟨b, o, none⟩)) : Y Tryz.prog ρ (.fieldAddr 96 x 2) ty w (.pointer (some ⟨b, o + 2, none⟩)) w := yFA hx Tryz.runUnderlying96 rfl rfl Tryz.sizeOf3 (by decide)
theorem pl96 : Places Tryz.prog 96 #[(0, 1), (1, 1), (2, 1)] := ⟨_, Tryz.underlying96, fun w => by simp [Tryz.sizeOf3]⟩
theorem fa108_0 {x : Operand} {b o : Nat} (hx : ρ x = .pointer (some ⟨b, o, none⟩)) : Y Tryz.prog ρ (.fieldAddr 108 x 0) ty w (.pointer (some ⟨b, o + 0, none⟩)) w := yFA hx Tryz.runUnderlying108 rfl rfl Tryz.sizeOf100 (by decide)
theorem fa108_1 {x : Operand} {b o : Nat} (hx : ρ x = .pointer (some ⟨b, o, none⟩)) : Y Tryz.prog ρ (.fieldAddr 108 x 1) ty w (.pointer (some ⟨b, o + 1, none⟩)) w := yFA hx Tryz.runUnderlying108 rfl rfl Tryz.sizeOf3 (by decide)
theorem fa108_2 {x : Operand} {b o : Nat} (hx : ρ x = .pointer (some ⟨b, o, none⟩)) : Y Tryz.prog ρ (.fieldAddr 108 x 2) ty w (.pointer (some ⟨b, o + 2, none⟩)) w := yFA hx Tryz.runUnderlying108 rfl rfl Tryz.sizeOf34 (by decide)
theorem fa108_3 {x : Operand} {b o : Nat} (hx : ρ x = .pointer (some ⟨b, o, none⟩)) : Y Tryz.prog ρ (.fieldAddr 108 x 3) ty w (.pointer (some ⟨b, o + 3, none⟩)) w := yFA hx Tryz.runUnderlying108 rfl rfl Tryz.sizeOf105 (by decide)
theorem fa108_4 {x : Operand} {b o : Nat} (hx : ρ x = .pointer (some ⟨b, o, none⟩)) : Y Tryz.prog ρ (.fieldAddr 108 x 4) ty w (.pointer (some ⟨b, o + 4, none⟩)) w := yFA hx Tryz.runUnderlying108 rfl rfl Tryz.sizeOf106 (by decide)
theorem pl108 : Places Tryz.prog 108 #[(0, 1), (1, 1), (2, 1), (3, 1), (4, 1)] := ⟨_, Tryz.underlying108, fun w => by simp [Tryz.sizeOf3, Tryz.sizeOf34, Tryz.sizeOf100, Tryz.sizeOf105, Tryz.sizeOf106]⟩
theorem fa115_0 {x : Operand} {b o : Nat} (hx : ρ x = .pointer (some ⟨b, o, none⟩)) : Y Tryz.prog ρ (.fieldAddr 115 x 0) ty w (.pointer (some ⟨b, o + 0, none⟩)) w := yFA hx Tryz.runUnderlying115 rfl rfl Tryz.sizeOf3 (by decide)
theorem fa115_1 {x : Operand} {b o : Nat} (hx : ρ x = .pointer (some ⟨b, o, none⟩)) : Y Tryz.prog ρ (.fieldAddr 115 x 1) ty w (.pointer (some ⟨b, o + 1, none⟩)) w := yFA hx Tryz.runUnderlying115 rfl rfl Tryz.sizeOf3 (by decide)
theorem fa115_2 {x : Operand} {b o : Nat} (hx : ρ x = .pointer (some ⟨b, o, none⟩)) : Y Tryz.prog ρ (.fieldAddr 115 x 2) ty w (.pointer (some ⟨b, o + 2, none⟩)) w := yFA hx Tryz.runUnderlying115 rfl rfl Tryz.sizeOf3 (by decide)
theorem pl115 : Places Tryz.prog 115 #[(0, 1), (1, 1), (2, 1)] := ⟨_, Tryz.underlying115, fun w => by simp [Tryz.sizeOf3]⟩
theorem fa127_0 {x : Operand} {b o : Nat} (hx : ρ x = .pointer (some ⟨b, o, none⟩)) : Y Tryz.prog ρ (.fieldAddr 127 x 0) ty w (.pointer (some ⟨b, o + 0, none⟩)) w := yFA hx Tryz.runUnderlying127 rfl rfl Tryz.sizeOf3 (by decide)
theorem fa127_1 {x : Operand} {b o : Nat} (hx : ρ x = .pointer (some ⟨b, o, none⟩)) : Y Tryz.prog ρ (.fieldAddr 127 x 1) ty w (.pointer (some ⟨b, o + 1, none⟩)) w := yFA hx Tryz.runUnderlying127 rfl rfl Tryz.sizeOf28 (by decide)
theorem pl127 : Places Tryz.prog 127 #[(0, 1), (1, 1)] := ⟨_, Tryz.underlying127, fun w => by simp [Tryz.sizeOf3, Tryz.sizeOf28]⟩
theorem fa141_0 {x : Operand} {b o : Nat} (hx : ρ x = .pointer (some ⟨b, o, none⟩)) : Y Tryz.prog ρ (.fieldAddr 141 x 0) ty w (.pointer (some ⟨b, o + 0, none⟩)) w := yFA hx Tryz.runUnderlying141 rfl rfl Tryz.sizeOf26 (by decide)
theorem fa141_1 {x : Operand} {b o : Nat} (hx : ρ x = .pointer (some ⟨b, o, none⟩)) : Y Tryz.prog ρ (.fieldAddr 141 x 1) ty w (.pointer (some ⟨b, o + 4, none⟩)) w := yFA hx Tryz.runUnderlying141 rfl rfl Tryz.sizeOf139 (by decide)
theorem fa141_2 {x : Operand} {b o : Nat} (hx : ρ x = .pointer (some ⟨b, o, none⟩)) : Y Tryz.prog ρ (.fieldAddr 141 x 2) ty w (.pointer (some ⟨b, o + 5, none⟩)) w := yFA hx Tryz.runUnderlying141 rfl rfl Tryz.sizeOf34 (by decide)
theorem pl141 : Places Tryz.prog 141 #[(0, 4), (4, 1), (5, 1)] := ⟨_, Tryz.underlying141, fun w => by simp [Tryz.sizeOf26, Tryz.sizeOf34, Tryz.sizeOf139]⟩
theorem fa172_0 {x : Operand} {b o : Nat} (hx : ρ x = .pointer (some ⟨b, o, none⟩)) : Y Tryz.prog ρ (.fieldAddr 172 x 0) ty w (.pointer (some ⟨b, o + 0, none⟩)) w := yFA hx Tryz.runUnderlying172 rfl rfl Tryz.sizeOf3 (by decide)
theorem fa172_1 {x : Operand} {b o : Nat} (hx : ρ x = .pointer (some ⟨b, o, none⟩)) : Y Tryz.prog ρ (.fieldAddr 172 x 1) ty w (.pointer (some ⟨b, o + 1, none⟩)) w := yFA hx Tryz.runUnderlying172 rfl rfl Tryz.sizeOf3 (by decide)
theorem fa172_2 {x : Operand} {b o : Nat} (hx : ρ x = .pointer (some ⟨b, o, none⟩)) : Y Tryz.prog ρ (.fieldAddr 172 x 2) ty w (.pointer (some ⟨b, o + 2, none⟩)) w := yFA hx Tryz.runUnderlying172 rfl rfl Tryz.sizeOf3 (by decide)
theorem fa172_3 {x : Operand} {b o : Nat} (hx : ρ x = .pointer (some ⟨b, o, none⟩)) : Y Tryz.prog ρ (.fieldAddr 172 x 3) ty w (.pointer (some ⟨b, o + 3, none⟩)) w := yFA hx Tryz.runUnderlying172 rfl rfl Tryz.sizeOf3 (by decide)
theorem fa172_4 {x : Operand} {b o : Nat} (hx : ρ x = .pointer (some ⟨b, o, none⟩)) : Y Tryz.prog ρ (.fieldAddr 172 x 4) ty w (.pointer (some ⟨b, o + 4, none⟩)) w := yFA hx Tryz.runUnderlying172 rfl rfl Tryz.sizeOf34 (by decide)
theorem pl172 : Places Tryz.prog 172 #[(0, 1), (1, 1), (2, 1), (3, 1), (4, 1)] := ⟨_, Tryz.underlying172, fun w => by simp [Tryz.sizeOf3, Tryz.sizeOf34]⟩
theorem fa174_0 {x : Operand} {b o : Nat} (hx : ρ x = .pointer (some ⟨b, o, none⟩)) : Y Tryz.prog ρ (.fieldAddr 174 x 0) ty w (.pointer (some ⟨b, o + 0, none⟩)) w := yFA hx Tryz.runUnderlying174 rfl rfl Tryz.sizeOf87 (by decide)
theorem fa174_1 {x : Operand} {b o : Nat} (hx : ρ x = .pointer (some ⟨b, o, none⟩)) : Y Tryz.prog ρ (.fieldAddr 174 x 1) ty w (.pointer (some ⟨b, o + 2, none⟩)) w := yFA hx Tryz.runUnderlying174 rfl rfl Tryz.sizeOf172 (by decide)
theorem pl174 : Places Tryz.prog 174 #[(0, 2), (2, 5)] := ⟨_, Tryz.underlying174, fun w => by simp [Tryz.sizeOf87, Tryz.sizeOf172]⟩
theorem fa202_0 {x : Operand} {b o : Nat} (hx : ρ x = .pointer (some ⟨b, o, none⟩)) : Y Tryz.prog ρ (.fieldAddr 202 x 0) ty w (.pointer (some ⟨b, o + 0, none⟩)) w := yFA hx Tryz.runUnderlying202 rfl rfl Tryz.sizeOf3 (by decide)
theorem fa202_1 {x : Operand} {b o : Nat} (hx : ρ x = .pointer (some ⟨b, o, none⟩)) : Y Tryz.prog ρ (.fieldAddr 202 x 1) ty w (.pointer (some ⟨b, o + 1, none⟩)) w := yFA hx Tryz.runUnderlying202 rfl rfl Tryz.sizeOf3 (by decide)
theorem pl202 : Places Tryz.prog 202 #[(0, 1), (1, 1)] := ⟨_, Tryz.underlying202, fun w => by simp [Tryz.sizeOf3]⟩
theorem fa204_0 {x : Operand} {b o : Nat} (hx : ρ x = .pointer (some ⟨b, o, none⟩)) : Y Tryz.prog ρ (.fieldAddr 204 x 0) ty w (.pointer (some ⟨b, o + 0, none⟩)) w := yFA hx Tryz.runUnderlying204 rfl rfl Tryz.sizeOf9 (by decide)
theorem fa204_1 {x : Operand} {b o : Nat} (hx : ρ x = .pointer (some ⟨b, o, none⟩)) : Y Tryz.prog ρ (.fieldAddr 204 x 1) ty w (.pointer (some ⟨b, o + 1, none⟩)) w := yFA hx Tryz.runUnderlying204 rfl rfl Tryz.sizeOf3 (by decide)
theorem fa204_2 {x : Operand} {b o : Nat} (hx : ρ x = .pointer (some ⟨b, o, none⟩)) : Y Tryz.prog ρ (.fieldAddr 204 x 2) ty w (.pointer (some ⟨b, o + 2, none⟩)) w := yFA hx Tryz.runUnderlying204 rfl rfl Tryz.sizeOf3 (by decide)
theorem fa204_3 {x : Operand} {b o : Nat} (hx : ρ x = .pointer (some ⟨b, o, none⟩)) : Y Tryz.prog ρ (.fieldAddr 204 x 3) ty w (.pointer (some ⟨b, o + 3, none⟩)) w := yFA hx Tryz.runUnderlying204 rfl rfl Tryz.sizeOf3 (by decide)
theorem pl204 : Places Tryz.prog 204 #[(0, 1), (1, 1), (2, 1), (3, 1)] := ⟨_, Tryz.underlying204, fun w => by simp [Tryz.sizeOf3, Tryz.sizeOf9]⟩
theorem fa215_0 {x : Operand} {b o : Nat} (hx : ρ x = .pointer (some ⟨b, o, none⟩)) : Y Tryz.prog ρ (.fieldAddr 215 x 0) ty w (.pointer (some ⟨b, o + 0, none⟩)) w := yFA hx Tryz.runUnderlying215 rfl rfl Tryz.sizeOf3 (by decide)
theorem fa215_1 {x : Operand} {b o : Nat} (hx : ρ x = .pointer (some ⟨b, o, none⟩)) : Y Tryz.prog ρ (.fieldAddr 215 x 1) ty w (.pointer (some ⟨b, o + 1, none⟩)) w := yFA hx Tryz.runUnderlying215 rfl rfl Tryz.sizeOf28 (by decide)
theorem pl215 : Places Tryz.prog 215 #[(0, 1), (1, 1)] := ⟨_, Tryz.underlying215, fun w => by simp [Tryz.sizeOf3, Tryz.sizeOf28]⟩
theorem fa268_0 {x : Operand} {b o : Nat} (hx : ρ x = .pointer (some ⟨b, o, none⟩)) : Y Tryz.prog ρ (.fieldAddr 268 x 0) ty w (.pointer (some ⟨b, o + 0, none⟩)) w := yFA hx Tryz.runUnderlying268 rfl rfl Tryz.sizeOf85 (by decide)
theorem fa268_1 {x : Operand} {b o : Nat} (hx : ρ x = .pointer (some ⟨b, o, none⟩)) : Y Tryz.prog ρ (.fieldAddr 268 x 1) ty w (.pointer (some ⟨b, o + 5, none⟩)) w := yFA hx Tryz.runUnderlying268 rfl rfl Tryz.sizeOf87 (by decide)
theorem fa268_2 {x : Operand} {b o : Nat} (hx : ρ x = .pointer (some ⟨b, o, none⟩)) : Y Tryz.prog ρ (.fieldAddr 268 x 2) ty w (.pointer (some ⟨b, o + 7, none⟩)) w := yFA hx Tryz.runUnderlying268 rfl rfl Tryz.sizeOf96 (by decide)
theorem fa268_3 {x : Operand} {b o : Nat} (hx : ρ x = .pointer (some ⟨b, o, none⟩)) : Y Tryz.prog ρ (.fieldAddr 268 x 3) ty w (.pointer (some ⟨b, o + 10, none⟩)) w := yFA hx Tryz.runUnderlying268 rfl rfl Tryz.sizeOf172 (by decide)
theorem pl268 : Places Tryz.prog 268 #[(0, 5), (5, 2), (7, 3), (10, 5)] := ⟨_, Tryz.underlying268, fun w => by simp [Tryz.sizeOf85, Tryz.sizeOf87, Tryz.sizeOf96, Tryz.sizeOf172]⟩
theorem fa273_0 {x : Operand} {b o : Nat} (hx : ρ x = .pointer (some ⟨b, o, none⟩)) : Y Tryz.prog ρ (.fieldAddr 273 x 0) ty w (.pointer (some ⟨b, o + 0, none⟩)) w := yFA hx Tryz.runUnderlying273 rfl rfl Tryz.sizeOf3 (by decide)
theorem fa273_1 {x : Operand} {b o : Nat} (hx : ρ x = .pointer (some ⟨b, o, none⟩)) : Y Tryz.prog ρ (.fieldAddr 273 x 1) ty w (.pointer (some ⟨b, o + 1, none⟩)) w := yFA hx Tryz.runUnderlying273 rfl rfl Tryz.sizeOf3 (by decide)
theorem pl273 : Places Tryz.prog 273 #[(0, 1), (1, 1)] := ⟨_, Tryz.underlying273, fun w => by simp [Tryz.sizeOf3]⟩
theorem eqIn38 {a0 b0 : Int} {a1 b1 : Int} {a2 b2 : Int} : (Op.equalIn 10000 38 (.agg #[.int .i64 a0, .int .i64 a1, .int .i64 a2]) (.agg #[.int .i64 b0, .int .i64 b1, .int .i64 b2])).run Tryz.prog w = .ok (decide (a0 = b0) && decide (a1 = b1) && decide (a2 = b2)) w := by
  have u3 := Tryz.underlying3
  have z3 := Tryz.sizeOf3
  have g3 := Tryz.isAgg3
  rw [show (10000 : Nat) = 9999 + 1 from rfl, run_equalIn_agg w 9999 38 _ _ (by kernel_rfl) (by kernel_rfl)]
  simp only [Program.fieldsOf, Tryz.underlying38]
  go_simp
  by_cases h0 : a0 = b0 <;> by_cases h1 : a1 = b1 <;> by_cases h2 : a2 = b2 <;> simp [h0, h1, h2]
theorem eqS38 {x y : Operand} {t : TypeId} {a0 b0 : Int} {a1 b1 : Int} {a2 b2 : Int} (hx : ρ x = .agg #[.int .i64 a0, .int .i64 a1, .int .i64 a2]) (hy : ρ y = .agg #[.int .i64 b0, .int .i64 b1, .int .i64 b2]) : Y Tryz.prog ρ (.binOp .eql 38 x y t) ty w (.bool ((decide (a0 = b0) && decide (a1 = b1) && decide (a2 = b2)))) w := by
  have hg := run_eqGuard_agg (P := Tryz.prog) w .eql 38 x y #[.int .i64 a0, .int .i64 a1, .int .i64 a2] #[.int .i64 b0, .int .i64 b1, .int .i64 b2] (by kernel_rfl)
  have he := run_eql_struct (P := Tryz.prog) w 38 #[.int .i64 a0, .int .i64 a1, .int .i64 a2] #[.int .i64 b0, .int .i64 b1, .int .i64 b2]
  rw [eqIn38] at he
  simp only [Result.andThen_ok] at he
  simp [Y, xop, execOp, hx, hy, hg, he]
theorem neS38 {x y : Operand} {t : TypeId} {a0 b0 : Int} {a1 b1 : Int} {a2 b2 : Int} (hx : ρ x = .agg #[.int .i64 a0, .int .i64 a1, .int .i64 a2]) (hy : ρ y = .agg #[.int .i64 b0, .int .i64 b1, .int .i64 b2]) : Y Tryz.prog ρ (.binOp .neq 38 x y t) ty w (.bool (!(decide (a0 = b0) && decide (a1 = b1) && decide (a2 = b2)))) w := by
  have hg := run_eqGuard_agg (P := Tryz.prog) w .neq 38 x y #[.int .i64 a0, .int .i64 a1, .int .i64 a2] #[.int .i64 b0, .int .i64 b1, .int .i64 b2] (by kernel_rfl)
  have he := run_neq_struct (P := Tryz.prog) w 38 #[.int .i64 a0, .int .i64 a1, .int .i64 a2] #[.int .i64 b0, .int .i64 b1, .int .i64 b2]
  rw [eqIn38] at he
  simp only [Result.andThen_ok] at he
  simp [Y, xop, execOp, hx, hy, hg, he]
theorem eqIn44 {a0 b0 : Int} {a1 b1 : Int} : (Op.equalIn 10000 44 (.agg #[.int .i64 a0, .int .i64 a1]) (.agg #[.int .i64 b0, .int .i64 b1])).run Tryz.prog w = .ok (decide (a0 = b0) && decide (a1 = b1)) w := by
  have u3 := Tryz.underlying3
  have z3 := Tryz.sizeOf3
  have g3 := Tryz.isAgg3
  rw [show (10000 : Nat) = 9999 + 1 from rfl, run_equalIn_agg w 9999 44 _ _ (by kernel_rfl) (by kernel_rfl)]
  simp only [Program.fieldsOf, Tryz.underlying44]
  go_simp
  by_cases h0 : a0 = b0 <;> by_cases h1 : a1 = b1 <;> simp [h0, h1]
theorem eqS44 {x y : Operand} {t : TypeId} {a0 b0 : Int} {a1 b1 : Int} (hx : ρ x = .agg #[.int .i64 a0, .int .i64 a1]) (hy : ρ y = .agg #[.int .i64 b0, .int .i64 b1]) : Y Tryz.prog ρ (.binOp .eql 44 x y t) ty w (.bool ((decide (a0 = b0) && decide (a1 = b1)))) w := by
  have hg := run_eqGuard_agg (P := Tryz.prog) w .eql 44 x y #[.int .i64 a0, .int .i64 a1] #[.int .i64 b0, .int .i64 b1] (by kernel_rfl)
  have he := run_eql_struct (P := Tryz.prog) w 44 #[.int .i64 a0, .int .i64 a1] #[.int .i64 b0, .int .i64 b1]
  rw [eqIn44] at he
  simp only [Result.andThen_ok] at he
  simp [Y, xop, execOp, hx, hy, hg, he]
theorem neS44 {x y : Operand} {t : TypeId} {a0 b0 : Int} {a1 b1 : Int} (hx : ρ x = .agg #[.int .i64 a0, .int .i64 a1]) (hy : ρ y = .agg #[.int .i64 b0, .int .i64 b1]) : Y Tryz.prog ρ (.binOp .neq 44 x y t) ty w (.bool (!(decide (a0 = b0) && decide (a1 = b1)))) w := by
  have hg := run_eqGuard_agg (P := Tryz.prog) w .neq 44 x y #[.int .i64 a0, .int .i64 a1] #[.int .i64 b0, .int .i64 b1] (by kernel_rfl)
  have he := run_neq_struct (P := Tryz.prog) w 44 #[.int .i64 a0, .int .i64 a1] #[.int .i64 b0, .int .i64 b1]
  rw [eqIn44] at he
  simp only [Result.andThen_ok] at he
  simp [Y, xop, execOp, hx, hy, hg, he]
theorem eqIn70 {a0 b0 : Int} {a1 b1 : Int} {a2 b2 : Int} {a3 b3 : Int} {a4 b4 : Int} : (Op.equalIn 10000 70 (.agg #[.int .i64 a0, .int .i64 a1, .int .i64 a2, .int .i64 a3, .int .i64 a4]) (.agg #[.int .i64 b0, .int .i64 b1, .int .i64 b2, .int .i64 b3, .int .i64 b4])).run Tryz.prog w = .ok (decide (a0 = b0) && decide (a1 = b1) && decide (a2 = b2) && decide (a3 = b3) && decide (a4 = b4)) w := by
  have u3 := Tryz.underlying3
  have z3 := Tryz.sizeOf3
  have g3 := Tryz.isAgg3
  rw [show (10000 : Nat) = 9999 + 1 from rfl, run_equalIn_agg w 9999 70 _ _ (by kernel_rfl) (by kernel_rfl)]
  simp only [Program.fieldsOf, Tryz.underlying70]
  go_simp
  by_cases h0 : a0 = b0 <;> by_cases h1 : a1 = b1 <;> by_cases h2 : a2 = b2 <;> by_cases h3 : a3 = b3 <;> by_cases h4 : a4 = b4 <;> simp [h0, h1, h2, h3, h4]
theorem eqS70 {x y : Operand} {t : TypeId} {a0 b0 : Int} {a1 b1 : Int} {a2 b2 : Int} {a3 b3 : Int} {a4 b4 : Int} (hx : ρ x = .agg #[.int .i64 a0, .int .i64 a1, .int .i64 a2, .int .i64 a3, .int .i64 a4]) (hy : ρ y = .agg #[.int .i64 b0, .int .i64 b1, .int .i64 b2, .int .i64 b3, .int .i64 b4]) : Y Tryz.prog ρ (.binOp .eql 70 x y t) ty w (.bool ((decide (a0 = b0) && decide (a1 = b1) && decide (a2 = b2) && decide (a3 = b3) && decide (a4 = b4)))) w := by
  have hg := run_eqGuard_agg (P := Tryz.prog) w .eql 70 x y #[.int .i64 a0, .int .i64 a1, .int .i64 a2, .int .i64 a3, .int .i64 a4] #[.int .i64 b0, .int .i64 b1, .int .i64 b2, .int .i64 b3, .int .i64 b4] (by kernel_rfl)
  have he := run_eql_struct (P := Tryz.prog) w 70 #[.int .i64 a0, .int .i64 a1, .int .i64 a2, .int .i64 a3, .int .i64 a4] #[.int .i64 b0, .int .i64 b1, .int .i64 b2, .int .i64 b3, .int .i64 b4]
  rw [eqIn70] at he
  simp only [Result.andThen_ok] at he
  simp [Y, xop, execOp, hx, hy, hg, he]
theorem neS70 {x y : Operand} {t : TypeId} {a0 b0 : Int} {a1 b1 : Int} {a2 b2 : Int} {a3 b3 : Int} {a4 b4 : Int} (hx : ρ x = .agg #[.int .i64 a0, .int .i64 a1, .int .i64 a2, .int .i64 a3, .int .i64 a4]) (hy : ρ y = .agg #[.int .i64 b0, .int .i64 b1, .int .i64 b2, .int .i64 b3, .int .i64 b4]) : Y Tryz.prog ρ (.binOp .neq 70 x y t) ty w (.bool (!(decide (a0 = b0) && decide (a1 = b1) && decide (a2 = b2) && decide (a3 = b3) && decide (a4 = b4)))) w := by
  have hg := run_eqGuard_agg (P := Tryz.prog) w .neq 70 x y #[.int .i64 a0, .int .i64 a1, .int .i64 a2, .int .i64 a3, .int .i64 a4] #[.int .i64 b0, .int .i64 b1, .int .i64 b2, .int .i64 b3, .int .i64 b4] (by kernel_rfl)
  have he := run_neq_struct (P := Tryz.prog) w 70 #[.int .i64 a0, .int .i64 a1, .int .i64 a2, .int .i64 a3, .int .i64 a4] #[.int .i64 b0, .int .i64 b1, .int .i64 b2, .int .i64 b3, .int .i64 b4]
  rw [eqIn70] at he
  simp only [Result.andThen_ok] at he
  simp [Y, xop, execOp, hx, hy, hg, he]
theorem ti3 : Tryz.prog.info? 3 = some Tryz.t3 := by kernel_rfl
theorem ti34 : Tryz.prog.info? 34 = some Tryz.t34 := by kernel_rfl
theorem ti36 : Tryz.prog.info? 36 = some Tryz.t36 := by kernel_rfl
theorem ti38 : Tryz.prog.info? 38 = some Tryz.t38 := by kernel_rfl
theorem ti41 : Tryz.prog.info? 41 = some Tryz.t41 := by kernel_rfl
theorem ti44 : Tryz.prog.info? 44 = some Tryz.t44 := by kernel_rfl
theorem ti70 : Tryz.prog.info? 70 = some Tryz.t70 := by kernel_rfl
theorem ti87 : Tryz.prog.info? 87 = some Tryz.t87 := by kernel_rfl
theorem ti96 : Tryz.prog.info? 96 = some Tryz.t96 := by kernel_rfl
theorem ti172 : Tryz.prog.info? 172 = some Tryz.t172 := by kernel_rfl
theorem ti174 : Tryz.prog.info? 174 = some Tryz.t174 := by kernel_rfl
end Go.Proofs.YtmoilbakmlekbaaGreatDoor
/- part LayA -/
namespace Go.Proofs.YtmoilbakmlekbaaGreatDoor
open Go.Shelf
def sortInts_ren : Go.Shelf.Ren := ⟨fun | 5 => 113 | 8 => 136 | 7 => 135 | 19 => 154 | 20 => 155 | 10 => 145 | 11 => 146 | 12 => 147 | 13 => 148 | 14 => 149 | 15 => 150 | 16 => 151 | 17 => 152 | 18 => 153 | 30 => 166 | 31 => 167 | 32 => 168 | 33 => 169 | 34 => 170 | 35 => 139 | 40 => 177 | n => n, fun | 23 => 34 | 25 => 3 | 3 => 3 | 32 => 233 | 22 => 34 | 0 => 0 | 44 => 56 | 46 => 252 | 4 => 4 | 36 => 244 | 35 => 243 | 41 => 177 | 5 => 5 | 9 => 9 | 53 => 260 | 57 => 264 | 63 => 270 | 64 => 257 | n => n, fun | n => n⟩
theorem sortInts : Go.Proofs.SlLaysM.n5 Tryz.prog sortInts_ren := {
  mixed := by kernel_rfl
  f5 := ⟨Tryz.f113.name, by decide, Tryz.func113.trans (congrArg some (by kernel_rfl))⟩
  f7 := ⟨Tryz.f135.name, by decide, Tryz.func135.trans (congrArg some (by kernel_rfl))⟩
  f8 := Tryz.func136.trans (congrArg some (by kernel_rfl))
  f10 := ⟨Tryz.f145.name, by decide, Tryz.func145.trans (congrArg some (by kernel_rfl))⟩
  f11 := ⟨Tryz.f146.name, by decide, Tryz.func146.trans (congrArg some (by kernel_rfl))⟩
  f12 := ⟨Tryz.f147.name, by decide, Tryz.func147.trans (congrArg some (by kernel_rfl))⟩
  f13 := ⟨Tryz.f148.name, by decide, Tryz.func148.trans (congrArg some (by kernel_rfl))⟩
  f14 := ⟨Tryz.f149.name, by decide, Tryz.func149.trans (congrArg some (by kernel_rfl))⟩
  f15 := ⟨Tryz.f150.name, by decide, Tryz.func150.trans (congrArg some (by kernel_rfl))⟩
  f16 := ⟨Tryz.f151.name, by decide, Tryz.func151.trans (congrArg some (by kernel_rfl))⟩
  f17 := ⟨Tryz.f152.name, by decide, Tryz.func152.trans (congrArg some (by kernel_rfl))⟩
  f18 := ⟨Tryz.f153.name, by decide, Tryz.func153.trans (congrArg some (by kernel_rfl))⟩
  f19 := Tryz.func154.trans (congrArg some (by kernel_rfl))
  f20 := Tryz.func155.trans (congrArg some (by kernel_rfl))
  f30 := ⟨Tryz.f166.name, by decide, Tryz.func166.trans (congrArg some (by kernel_rfl))⟩
  f31 := Tryz.func167.trans (congrArg some (by kernel_rfl))
  f32 := Tryz.func168.trans (congrArg some (by kernel_rfl))
  f33 := ⟨Tryz.f169.name, by decide, Tryz.func169.trans (congrArg some (by kernel_rfl))⟩
  f34 := ⟨Tryz.f170.name, by decide, Tryz.func170.trans (congrArg some (by kernel_rfl))⟩
  f35 := ⟨Tryz.f139.name, by decide, Tryz.func139.trans (congrArg some (by kernel_rfl))⟩
  f40 := ⟨Tryz.f177.name, by decide, Tryz.func177.trans (congrArg some (by kernel_rfl))⟩
  t0 := Tryz.underlying0
  a0 := Tryz.isAgg0
  z0 := Tryz.sizeOf0
  v0 := Tryz.zeroValue0
  t3 := Tryz.underlying3
  a3 := Tryz.isAgg3
  z3 := Tryz.sizeOf3
  v3 := Tryz.zeroValue3
  t4 := Tryz.underlying4
  a4 := Tryz.isAgg4
  z4 := Tryz.sizeOf4
  v4 := Tryz.zeroValue4
  t5 := Tryz.underlying5
  a5 := Tryz.isAgg5
  z5 := Tryz.sizeOf5
  v5 := Tryz.zeroValue5
  t9 := Tryz.underlying9
  a9 := Tryz.isAgg9
  z9 := Tryz.sizeOf9
  v9 := Tryz.zeroValue9
  t22 := Tryz.underlying34
  a22 := Tryz.isAgg34
  z22 := Tryz.sizeOf34
  v22 := Tryz.zeroValue34
  t23 := Tryz.underlying34
  a23 := Tryz.isAgg34
  z23 := Tryz.sizeOf34
  v23 := Tryz.zeroValue34
  t25 := Tryz.underlying3
  a25 := Tryz.isAgg3
  z25 := Tryz.sizeOf3
  v25 := Tryz.zeroValue3
  t32 := Tryz.underlying233
  a32 := Tryz.isAgg233
  z32 := Tryz.sizeOf233
  v32 := Tryz.zeroValue233
  t35 := Tryz.underlying243
  a35 := Tryz.isAgg243
  z35 := Tryz.sizeOf243
  v35 := Tryz.zeroValue243
  t36 := Tryz.underlying244
  a36 := Tryz.isAgg244
  z36 := Tryz.sizeOf244
  v36 := Tryz.zeroValue244
  t41 := Tryz.underlying177
  a41 := Tryz.isAgg177
  z41 := Tryz.sizeOf177
  v41 := Tryz.zeroValue177
  t44 := Tryz.underlying56
  a44 := Tryz.isAgg56
  z44 := Tryz.sizeOf56
  v44 := Tryz.zeroValue56
  t46 := Tryz.underlying252
  a46 := Tryz.isAgg252
  z46 := Tryz.sizeOf252
  v46 := Tryz.zeroValue252
  t53 := Tryz.underlying260
  a53 := Tryz.isAgg260
  z53 := Tryz.sizeOf260
  v53 := Tryz.zeroValue260
  t57 := Tryz.underlying264
  a57 := Tryz.isAgg264
  z57 := Tryz.sizeOf264
  v57 := Tryz.zeroValue264
  t63 := Tryz.underlying270
  a63 := Tryz.isAgg270
  z63 := Tryz.sizeOf270
  v63 := Tryz.zeroValue270
  t64 := Tryz.underlying257
  a64 := Tryz.isAgg257
  z64 := Tryz.sizeOf257
  v64 := Tryz.zeroValue257 }
end Go.Proofs.YtmoilbakmlekbaaGreatDoor
/- part C1 -/
namespace Bx
open Go Go.RowKit
def Room (n bytes : Nat) : Prop := n * bytes ≤ 140737488351232
def RoomW (n bytes : Nat) : Prop := n * bytes ≤ 140737488353280
structure Spn where
  fr : Int
  un : Int
structure Opr where
  name : ByteArray
  grade : Int
  duty : List Spn
structure Knd where
  name : ByteArray
  grade : Int
  second : Int
  within : Int
  keys : List Int
  split : Bool
structure Crew where
  ops : List Opr
  keys : List ByteArray
  kinds : List Knd
def spnC (s : Spn) : List Value := [.int .i64 s.fr, .int .i64 s.un]
theorem spnC_len (s : Spn) : (spnC s).length = 2 := rfl
def RSpn (_ : World) (cs : List Value) (s : Spn) : Prop := cs = spnC s ∧ I64 s.fr ∧ I64 s.un
theorem RSpn.stays : Stays RSpn := fun _ _ _ _ _ h => h
def RNam (_ : World) (cs : List Value) (s : ByteArray) : Prop := cs = [.string s] ∧ s.size ≤ 9223372036854775807
theorem RNam.stays : Stays RNam := fun _ _ _ _ _ h => h
def ROpr (w : World) (cs : List Value) (o : Opr) : Prop := ∃ dv, cs = [.string o.name, .int .i64 o.grade, dv] ∧ o.name.size ≤ 9223372036854775807 ∧ I64 o.grade ∧ Sl w 2 RSpn dv o.duty ∧ RoomW o.duty.length 16
theorem ROpr.stays : Stays ROpr := fun _ _ _ _ e ⟨dv, h1, h2, h3, h4, h5⟩ => ⟨dv, h1, h2, h3, h4.ext RSpn.stays e, h5⟩
def RKnd (w : World) (cs : List Value) (k : Knd) : Prop := ∃ kv, cs = [.string k.name, .int .i64 k.grade, .int .i64 k.second, .int .i64 k.within, kv, .bool k.split] ∧ k.name.size ≤ 9223372036854775807 ∧ I64 k.grade ∧ I64 k.second ∧ I64 k.within ∧ Sl w 1 RInt kv k.keys ∧ Room k.keys.length 8
theorem RKnd.stays : Stays RKnd := fun _ _ _ _ e ⟨kv, h1, h2, h3, h4, h5, h6, h7⟩ => ⟨kv, h1, h2, h3, h4, h5, h6.ext RInt.stays e, h7⟩
def RCrew (w : World) (cs : List Value) (c : Crew) : Prop := ∃ ov kv nv, cs = [ov, kv, nv] ∧ Sl w 3 ROpr ov c.ops ∧ Sl w 1 RNam kv c.keys ∧ Sl w 6 RKnd nv c.kinds ∧ Room c.ops.length 48
theorem RCrew.stays : Stays RCrew := fun _ _ _ _ e ⟨ov, kv, nv, h1, h2, h3, h4, h5⟩ => ⟨ov, kv, nv, h1, h2.ext ROpr.stays e, h3.ext RNam.stays e, h4.ext RKnd.stays e, h5⟩
theorem RCrew.ext {w w' : World} {cs : List Value} {c : Crew} (h : RCrew w cs c) (e : Ext w w') : RCrew w' cs c := RCrew.stays _ _ _ _ e h
theorem ROpr.ext {w w' : World} {cs : List Value} {c : Opr} (h : ROpr w cs c) (e : Ext w w') : ROpr w' cs c := ROpr.stays _ _ _ _ e h
theorem RKnd.ext {w w' : World} {cs : List Value} {c : Knd} (h : RKnd w cs c) (e : Ext w w') : RKnd w' cs c := RKnd.stays _ _ _ _ e h
/-! ### what is wrong -/
abbrev neverB (n : Int) : Bool := outB n 0 100000
def spnBad (s : Spn) : Bool := neverB s.un || outB s.fr 0 s.un
def oprE (o : Opr) : Int := if outB o.grade 1 9 = true then 7 else if (6 : Int) < o.duty.length then 3 else if o.duty.any spnBad = true then 7 else 0
def kndR (k : Knd) : Bool := outB k.grade 1 9 || outB k.second 0 9 || outB k.within 0 1000 || (decide (k.second = 0) && decide (0 < k.within))
def kndS (k : Knd) : Bool := k.split && (decide (k.second = 0) || decide ((k.keys.length : Int) < 2))
def kndE (nk : Int) (k : Knd) : Int := if kndR k = true then 7 else if (k.keys.any fun x => outB x 0 (nk - 1)) = true then 4 else if ¬ k.keys.Nodup then 5 else if kndS k = true then 2 else 0
def namedR {α : Type} (nm : α → ByteArray) (rest : α → Int) : List α → List ByteArray → Int → Int × Int
  | [], _, _ => (0, 0)
  | x :: l, seen, i => if (!isName (nm x)) = true then (i, 6) else if memB (nm x) seen = true then (i, 5) else if rest x ≠ 0 then (i, rest x) else namedR nm rest l (seen ++ [nm x]) (i + 1)
def sizeBad (c : Crew) : Bool := outB c.ops.length 1 8 || decide ((8 : Int) < c.keys.length) || outB c.kinds.length 1 8
def checkC (c : Crew) : Int × Int × Int :=
  if sizeBad c = true then (1, 0, 3)
  else if (namedR (·.name) oprE c.ops [] 0).2 ≠ 0 then (2, namedR (·.name) oprE c.ops [] 0)
  else if (namedR id (fun _ => 0) c.keys [] 0).2 ≠ 0 then (3, namedR id (fun _ => 0) c.keys [] 0)
  else if (namedR (·.name) (kndE c.keys.length) c.kinds [] 0).2 ≠ 0 then (4, namedR (·.name) (kndE c.keys.length) c.kinds [] 0)
  else (0, 0, 0)
theorem namedR_take {α : Type} {nm : α → ByteArray} {l : List α} {k : Nat} {x : α} (h : l[k]? = some x) : (l.take (k + 1)).map nm = (l.take k).map nm ++ [nm x] := by rw [take_snoc h, List.map_append]; rfl
/-! ### sorted, compacted: whether a number stands twice -/
def compR : Int → List Int → List Int
  | _, [] => []
  | a, b :: l => if b = a then compR a l else b :: compR b l
def compL : List Int → List Int
  | [] => []
  | a :: l => a :: compR a l
theorem compR_le : ∀ (a : Int) (l : List Int), (compR a l).length ≤ l.length
  | _, [] => Nat.le_refl _
  | a, b :: l => by
    unfold compR
    split
    · have := compR_le a l; simp only [List.length_cons]; omega
    · have := compR_le b l; simp only [List.length_cons]; omega
theorem compR_full : ∀ (a : Int) (l : List Int), (a :: l).Pairwise (· ≤ ·) → ((compR a l).length < l.length ↔ ¬ (a :: l).Nodup)
  | a, [], _ => by simp [compR]
  | a, b :: l, hp => by
    have hab := (List.pairwise_cons.1 hp).1 b (List.mem_cons_self ..)
    have hb := (List.pairwise_cons.1 hp).2
    unfold compR
    by_cases h : b = a
    · subst h
      rw [if_pos rfl]
      have := compR_le b l
      constructor
      · intro _ hn; exact (List.nodup_cons.1 hn).1 (List.mem_cons_self ..)
      · intro _; simp only [List.length_cons]; omega
    · rw [if_neg h]
      have ih := compR_full b l hb
      simp only [List.length_cons]
      have hna : a ∉ b :: l := by
        intro hm
        rcases List.mem_cons.1 hm with e | hm
        · exact h e.symm
        · have := (List.pairwise_cons.1 hb).1 a hm
          omega
      rw [List.nodup_cons]
      constructor
      · rintro hlt ⟨_, hn⟩; exact ih.1 (by omega) hn
      · intro hn
        have : ¬ (b :: l).Nodup := fun k => hn ⟨hna, k⟩
        have := ih.2 this
        omega
theorem compL_full {l : List Int} (h : l.Pairwise (· ≤ ·)) : (compL l).length < l.length ↔ ¬ l.Nodup := by
  cases l with
  | nil => simp [compL]
  | cons a l => simp only [compL, List.length_cons]; rw [← compR_full a l h]; omega
abbrev sortI (l : List Int) : List Int := l.mergeSort fun x y => decide (x ≤ y)
theorem sortI_asc (l : List Int) : (sortI l).Pairwise (· ≤ ·) := by
  have h := List.pairwise_mergeSort (le := fun x y : Int => decide (x ≤ y)) (fun a b c h1 h2 => by simp only [decide_eq_true_eq] at *; omega) (fun a b => by simp only [Bool.or_eq_true, decide_eq_true_eq]; omega) l
  exact h.imp fun hh => by simpa using hh
theorem sortI_perm (l : List Int) : (sortI l).Perm l := List.mergeSort_perm _ _
theorem comp_sort (l : List Int) : (compL (sortI l)).length < l.length ↔ ¬ l.Nodup := by
  rw [← (sortI_perm l).length_eq, compL_full (sortI_asc l), (sortI_perm l).nodup_iff]
end Bx
namespace Bx
open Go Go.RowKit
theorem flatI (l : List Int) : l.flatMap encI = l.map (Value.int .i64) := by
  induction l with
  | nil => rfl
  | cons x l ih => rw [List.flatMap_cons, List.map_cons, ih]; rfl
theorem gap_outI {ks js l : List Int} {j : Nat} {x : Int} (hx : l[j]? = some x) (hne : js ≠ []) : ((ks ++ [x]) ++ (js.tail ++ [x]) ++ l.drop (j + 1)).flatMap encI = splice ((ks ++ js ++ l.drop j).flatMap encI) (ks.length * 1) [.int .i64 x] := by
  obtain ⟨y, js, rfl⟩ := List.exists_cons_of_ne_nil hne
  have hd : l.drop j = x :: l.drop (j + 1) := by
    obtain ⟨h, rfl⟩ := List.getElem?_eq_some_iff.1 hx
    exact List.drop_eq_getElem_cons h
  rw [flatI, flatI, Nat.mul_one, hd]
  unfold splice
  simp only [List.map_append, List.map_cons, List.map_nil, List.tail_cons, List.append_assoc, List.cons_append, List.nil_append, List.length_singleton]
  have e1 : (ks.map (Value.int .i64)).length = ks.length := by simp
  rw [List.take_append, List.take_of_length_le (by simp), List.length_map, Nat.sub_self, List.take_zero, List.append_nil]
  have e2 := drop_mid (ks.map (Value.int .i64)) (.int .i64 y) (js.map (Value.int .i64) ++ Value.int .i64 x :: (l.drop (j + 1)).map (Value.int .i64)) ks.length 0 e1
  rw [Nat.add_zero, List.drop_zero] at e2
  rw [e2]
theorem take_flatI (ks r : List Int) : ((ks ++ r).flatMap encI).take (ks.length * 1) = ks.flatMap encI := by
  rw [flatI, flatI, Nat.mul_one, List.map_append, List.take_append, List.take_of_length_le (by simp), List.length_map, Nat.sub_self, List.take_zero, List.append_nil]
theorem compL_one {l : List Int} (h : 0 < l.length) : compL l = l.take 1 ++ compR (l.getD (1 - 1) 0) (l.drop 1) := by
  cases l with
  | nil => cases h
  | cons a l => simp [compL]
theorem compL_short {l : List Int} (h : (l.length : Int) < 2) : compL l = l := by
  match l with
  | [] => rfl
  | [a] => rfl
  | a :: b :: l => simp at h; omega
theorem mid_last {ks js l : List Int} {j : Nat} (hl : ks.length + js.length = j) (hne : js ≠ []) (h : (ks ++ js)[j - 1]? = l[j - 1]?) : (ks ++ js ++ l.drop j)[j - 1]? = l[j - 1]? := by
  have := List.length_pos_iff.2 hne
  rw [List.getElem?_append_left (by simp; omega), h]
theorem last_in {ks js l : List Int} {j : Nat} {x : Int} (hx : l[j]? = some x) (hl : ks.length + js.length = j) : (ks ++ (js ++ [x]))[j + 1 - 1]? = l[j + 1 - 1]? := by
  rw [← List.append_assoc, List.getElem?_append_right (by simp; omega), Nat.add_sub_cancel, hx]
  simp [hl]
theorem last_out {ks js l : List Int} {j : Nat} {x : Int} (hx : l[j]? = some x) (hl : ks.length + js.length = j) (hne : js ≠ []) : ((ks ++ [x]) ++ (js.tail ++ [x]))[j + 1 - 1]? = l[j + 1 - 1]? := by
  have := List.length_pos_iff.2 hne
  rw [← List.append_assoc, List.getElem?_append_right (by simp; omega), Nat.add_sub_cancel, hx]
  simp only [List.length_append, List.length_singleton, List.length_tail]
  rw [show j - (ks.length + 1 + (js.length - 1)) = 0 by omega]
  rfl
theorem getD_of {l : List Int} {i : Nat} {x : Int} (h : l[i]? = some x) : l.getD i 0 = x := getD_hit h
end Bx
/- part LibZA -/
namespace Go.Proofs.YtmoilbakmlekbaaGreatDoor
open Go Bx Go.Shelf Go.RowKit Go.Lib Go.Sort
theorem flat_encI (l : List Int) : l.flatMap Bx.encI = l.map (Value.int .i64) := by
  induction l with
  | nil => rfl
  | cons x l ih => rw [List.flatMap_cons, List.map_cons, ih]; rfl
theorem putI_take {cur : Array Value} {l : List Int} (h : l.length ≤ cur.size) : (Sort.putCells (Value.int .i64) 0 l.toArray cur).toList.take l.length = l.map (Value.int .i64) ∧ (Sort.putCells (Value.int .i64) 0 l.toArray cur).size = cur.size := by
  refine ⟨?_, by simp [Sort.putCells]⟩
  apply List.ext_getElem?
  intro t
  by_cases ht : t < l.length
  · rw [List.getElem?_take_of_lt ht, Array.getElem?_toList, List.getElem?_map]
    simp only [Sort.putCells, Array.getElem?_mapIdx]
    have h1 : cur[t]? = some cur[t] := Array.getElem?_eq_getElem (by omega)
    rw [h1]
    simp only [Option.map_some]
    rw [if_pos ⟨Nat.zero_le _, by simp; omega⟩, Nat.sub_zero, getElem!_pos l.toArray t (by simpa using ht), List.getElem?_eq_getElem ht]
    rfl
  · rw [List.getElem?_eq_none (by simp; omega), List.getElem?_eq_none (by simp; omega)]
theorem c_Sort {v : Value} {n : Nat} {l : List Int} {w0 : World} (hr : w0.ownsRow 0 3 1 v n (l.flatMap Bx.encI)) (hl : l.length = n) (hn : n < 4611686018427387904) :
    CE Tryz.prog 113 #[v] w0 (fun u w' => u = .tuple #[] ∧ w0.grownBy w' v.ownBlock ∧ w'.ownsRow 0 3 1 v n ((sortI l).flatMap Bx.encI)) := by
  rcases id hr.2 with ⟨rfl, rfl⟩ | ⟨gb, cap, cur, rfl, -, hg, hnc, hcap, hcs, ht⟩
  · refine Calls.mono (AnyM.slices_Sort_int_none sortInts none 0 w0) ?_
    rintro e w' ⟨rfl, rfl⟩
    obtain rfl : l = [] := List.eq_nil_of_length_eq_zero hl
    exact ⟨_, rfl, rfl, ⟨rfl, rfl, rfl, Nat.le_refl _, fun _ _ _ => rfl⟩, by rw [show sortI [] = [] from by simp [sortI]]; exact hr⟩
  · rw [Nat.mul_one] at hcs ht
    rw [flat_encI] at ht
    have hH : Holds (Value.int .i64) w0 gb 0 l.toArray := by
      intro j hj
      simp only [List.size_toArray] at hj
      have h1 : (cur.toList.take n)[j]? = (l.map (Value.int .i64))[j]? := by rw [ht]
      rw [List.getElem?_take_of_lt (by omega), Array.getElem?_toList, List.getElem?_map, List.getElem?_eq_getElem hj] at h1
      refine ⟨?_, by simp [World.frozen?, hg]⟩
      simp only [World.cell?, hg, Nat.zero_add, h1, Option.map_some]
      rw [getElem!_pos l.toArray j (by simpa using hj)]
      simp
    have h := AnyM.slices_Sort_int sortInts gb 0 cap l w0 hH (lt_of_heap hg) (by omega)
    rw [hl] at h
    refine Calls.mono h ?_
    rintro e w' ⟨rfl, m, os, rfl⟩
    have hlen : (sortI l).length = n := by rw [(sortI_perm l).length_eq, hl]
    obtain ⟨h1, h2⟩ := putI_take (cur := cur) (l := sortI l) (by omega)
    have hlt := lt_of_heap hg
    have hHp : (Sort.grow (Sort.putRow (Value.int .i64) (Sort.ahead w0 m) gb 0 (sortI l).toArray) os).heap = w0.heap.modify gb (Sort.onCells (Sort.putCells (Value.int .i64) 0 (sortI l).toArray)) ++ os := rfl
    have hsz : (w0.heap.modify gb (Sort.onCells (Sort.putCells (Value.int .i64) 0 (sortI l).toArray))).size = w0.heap.size := by simp
    refine ⟨_, rfl, rfl, ⟨rfl, rfl, rfl, ?_, ?_⟩, ⟨?_, .inr ⟨gb, cap, Sort.putCells (Value.int .i64) 0 (sortI l).toArray cur, rfl, Nat.zero_le _, ?_, hnc, hcap, ?_, ?_⟩⟩⟩
    · show w0.heap.size ≤ (Sort.grow (Sort.putRow (Value.int .i64) (Sort.ahead w0 m) gb 0 (sortI l).toArray) os).heap.size
      rw [hHp, Array.size_append, hsz]; omega
    · intro k hk hne
      show (Sort.grow (Sort.putRow (Value.int .i64) (Sort.ahead w0 m) gb 0 (sortI l).toArray) os).heap[k]? = _
      rw [hHp, Array.getElem?_append, if_pos (by rw [hsz]; exact hk), Array.getElem?_modify, if_neg (fun e => hne (by rw [e]; rfl))]
    · rw [flat_encI, List.length_map, hlen, Nat.mul_one]
    · show (Sort.grow (Sort.putRow (Value.int .i64) (Sort.ahead w0 m) gb 0 (sortI l).toArray) os).heap[gb]? = _
      rw [hHp, Array.getElem?_append, if_pos (by rw [hsz]; exact hlt), Array.getElem?_modify, if_pos rfl, hg]
      rfl
    · rw [h2, hcs, Nat.mul_one]
    · rw [Nat.mul_one, ← hlen, h1, flat_encI]
end Go.Proofs.YtmoilbakmlekbaaGreatDoor
/- part A1 -/
/- Seats, and who moves: plain laws of a search for seats. -/
namespace Bx
abbrev Seat := Int × Int × Int
def fset {α β : Type} [DecidableEq α] (f : α → β) (k : α) (v : β) : α → β := fun x => if x = k then v else f x
theorem fset_same {α β : Type} [DecidableEq α] (f : α → β) (k : α) (v : β) : fset f k v k = v := if_pos rfl
theorem fset_ne {α β : Type} [DecidableEq α] (f : α → β) {k x : α} (v : β) (h : x ≠ k) : fset f k v x = f x := if_neg h
structure Mst where
  tried : Seat → Bool
  taken : Seat → Option Int
  seats : Int → Option Seat
def Mst.mark (st : Mst) (s : Seat) : Mst := { st with tried := fset st.tried s true }
def Mst.put (st : Mst) (s : Seat) (i : Int) : Mst := { st with taken := fset st.taken s (some i), seats := fset st.seats i (some s) }
def goF (fx : Int → Bool) (rec : Int → Mst → Bool × Mst) (i : Int) : List Seat → Mst → Bool × Mst
  | [], st => (false, st)
  | s :: l, st =>
    if st.tried s = true then goF fx rec i l st
    else match st.taken s with
      | none => (true, (st.mark s).put s i)
      | some o => if fx o = true then goF fx rec i l (st.mark s)
        else if (rec o (st.mark s)).1 = true then (true, (rec o (st.mark s)).2.put s i)
        else goF fx rec i l (rec o (st.mark s)).2
def moveF (fx : Int → Bool) (sl : Int → List Seat) : Nat → Int → Mst → Bool × Mst
  | 0, _, st => (false, st)
  | n + 1, i, st => goF fx (moveF fx sl n) i (sl i) st
theorem goF_skip {fx : Int → Bool} {rec : Int → Mst → Bool × Mst} {i : Int} {s : Seat} {l : List Seat} {st : Mst} (h : st.tried s = true) : goF fx rec i (s :: l) st = goF fx rec i l st := by rw [goF, if_pos h]
theorem goF_free {fx : Int → Bool} {rec : Int → Mst → Bool × Mst} {i : Int} {s : Seat} {l : List Seat} {st : Mst} (h : st.tried s = false) (ht : st.taken s = none) : goF fx rec i (s :: l) st = (true, (st.mark s).put s i) := by rw [goF, if_neg (by rw [h]; decide), ht]
theorem goF_fix {fx : Int → Bool} {rec : Int → Mst → Bool × Mst} {i o : Int} {s : Seat} {l : List Seat} {st : Mst} (h : st.tried s = false) (ht : st.taken s = some o) (hf : fx o = true) : goF fx rec i (s :: l) st = goF fx rec i l (st.mark s) := by rw [goF, if_neg (by rw [h]; decide), ht]; exact if_pos hf
theorem goF_yes {fx : Int → Bool} {rec : Int → Mst → Bool × Mst} {i o : Int} {s : Seat} {l : List Seat} {st : Mst} (h : st.tried s = false) (ht : st.taken s = some o) (hf : fx o = false) (hr : (rec o (st.mark s)).1 = true) : goF fx rec i (s :: l) st = (true, (rec o (st.mark s)).2.put s i) := by
  rw [goF, if_neg (by rw [h]; decide), ht]; exact (if_neg (by rw [hf]; decide)).trans (if_pos hr)
theorem goF_no {fx : Int → Bool} {rec : Int → Mst → Bool × Mst} {i o : Int} {s : Seat} {l : List Seat} {st : Mst} (h : st.tried s = false) (ht : st.taken s = some o) (hf : fx o = false) (hr : (rec o (st.mark s)).1 = false) : goF fx rec i (s :: l) st = goF fx rec i l (rec o (st.mark s)).2 := by
  rw [goF, if_neg (by rw [h]; decide), ht]; exact (if_neg (by rw [hf]; decide)).trans (if_neg (by rw [hr]; decide))
/-- What is tried stays so. -/
def Mono (st st' : Mst) : Prop := ∀ s, st.tried s = true → st'.tried s = true
theorem Mono.refl (st : Mst) : Mono st st := fun _ h => h
theorem Mono.trans {a b c : Mst} (h : Mono a b) (k : Mono b c) : Mono a c := fun s hs => k s (h s hs)
theorem mono_mark (st : Mst) (s : Seat) : Mono st (st.mark s) := fun x h => by
  show fset st.tried s true x = true
  unfold fset; split
  · rfl
  · exact h
theorem mono_put (st : Mst) (s : Seat) (i : Int) : Mono st (st.put s i) := fun _ h => h
theorem goF_mono {fx : Int → Bool} {rec : Int → Mst → Bool × Mst} (hr : ∀ o st, Mono st (rec o st).2) (i : Int) : ∀ (l : List Seat) (st : Mst), Mono st (goF fx rec i l st).2
  | [], st => Mono.refl st
  | s :: l, st => by
    by_cases h : st.tried s = true
    · rw [goF_skip h]; exact goF_mono hr i l st
    · have h' : st.tried s = false := by simpa using h
      cases ht : st.taken s with
      | none => rw [goF_free h' ht]; exact mono_mark st s
      | some o =>
        cases hf : fx o with
        | true => rw [goF_fix h' ht hf]; exact (mono_mark st s).trans (goF_mono hr i l _)
        | false =>
          cases hq : (rec o (st.mark s)).1 with
          | true => rw [goF_yes h' ht hf hq]; exact (mono_mark st s).trans (hr o _)
          | false => rw [goF_no h' ht hf hq]; exact ((mono_mark st s).trans (hr o _)).trans (goF_mono hr i l _)
theorem moveF_mono {fx : Int → Bool} {sl : Int → List Seat} : ∀ (n : Nat) (i : Int) (st : Mst), Mono st (moveF fx sl n i st).2
  | 0, _, st => Mono.refl st
  | n + 1, i, st => goF_mono (moveF_mono n) i (sl i) st
/-- How many seats are not tried. -/
def cntU (U : List Seat) (tr : Seat → Bool) : Nat := (U.filter fun s => !tr s).length
theorem cntU_mono {U : List Seat} {a b : Seat → Bool} (h : ∀ s, a s = true → b s = true) : cntU U b ≤ cntU U a := by
  unfold cntU
  induction U with
  | nil => exact Nat.le_refl _
  | cons x U ih =>
    cases hb : b x with
    | true =>
      rw [List.filter_cons_of_neg (by simp [hb])]
      cases ha : a x with
      | true => rw [List.filter_cons_of_neg (by simp [ha])]; exact ih
      | false => rw [List.filter_cons_of_pos (by simp [ha])]; simp only [List.length_cons]; omega
    | false =>
      have ha : a x = false := by
        cases ha : a x with
        | false => rfl
        | true => rw [h x ha] at hb; cases hb
      rw [List.filter_cons_of_pos (by simp [hb]), List.filter_cons_of_pos (by simp [ha])]
      simp only [List.length_cons]; omega
theorem cntU_mark {U : List Seat} {st : Mst} {s : Seat} (hs : s ∈ U) (h : st.tried s = false) : cntU U (st.mark s).tried < cntU U st.tried := by
  unfold cntU
  induction U with
  | nil => cases hs
  | cons x U ih =>
    have hm := cntU_mono (U := U) (mono_mark st s)
    unfold cntU at hm
    by_cases hx : x = s
    · subst hx
      rw [List.filter_cons_of_neg (by simp [Mst.mark, fset_same]), List.filter_cons_of_pos (by simp [h])]
      simp only [List.length_cons]; omega
    · have hU : s ∈ U := by
        rcases List.mem_cons.1 hs with e | e
        · exact absurd e.symm hx
        · exact e
      have := ih hU
      have hq : (st.mark s).tried x = st.tried x := fset_ne _ _ hx
      cases ha : st.tried x with
      | true => rw [List.filter_cons_of_neg (by simp [hq, ha]), List.filter_cons_of_neg (by simp [ha])]; exact this
      | false => rw [List.filter_cons_of_pos (by simp [hq, ha]), List.filter_cons_of_pos (by simp [ha])]; simp only [List.length_cons]; omega
/-- What a search that found nothing leaves. -/
structure Fail (fx : Int → Bool) (sl : Int → List Seat) (l : List Seat) (st st' : Mst) : Prop where
  taken : st'.taken = st.taken
  seats : st'.seats = st.seats
  mono : Mono st st'
  all : ∀ s ∈ l, st'.tried s = true
  new : ∀ s, st'.tried s = true → st.tried s = false → ∃ o, st.taken s = some o ∧ (fx o = true ∨ ∀ x ∈ sl o, st'.tried x = true)
theorem Fail.nil {fx : Int → Bool} {sl : Int → List Seat} {st : Mst} : Fail fx sl [] st st := ⟨rfl, rfl, Mono.refl st, fun _ h => (nomatch h), fun s h1 h2 => by rw [h1] at h2; cases h2⟩
theorem Fail.skip {fx : Int → Bool} {sl : Int → List Seat} {s : Seat} {l : List Seat} {st st' : Mst} (hs : st.tried s = true) (h : Fail fx sl l st st') : Fail fx sl (s :: l) st st' :=
  ⟨h.taken, h.seats, h.mono, fun x hx => by
    rcases List.mem_cons.1 hx with rfl | hx
    · exact h.mono _ hs
    · exact h.all x hx, h.new⟩
theorem Fail.fix {fx : Int → Bool} {sl : Int → List Seat} {s : Seat} {l : List Seat} {o : Int} {st st' : Mst} (ht : st.taken s = some o) (hf : fx o = true) (h : Fail fx sl l (st.mark s) st') : Fail fx sl (s :: l) st st' :=
  ⟨h.taken, h.seats, (mono_mark st s).trans h.mono, fun x hx => by
    rcases List.mem_cons.1 hx with rfl | hx
    · exact h.mono _ (fset_same _ _ _)
    · exact h.all x hx, fun x h1 h2 => by
      by_cases hx : x = s
      · subst hx; exact ⟨o, ht, .inl hf⟩
      · exact h.new x h1 ((fset_ne _ _ hx).trans h2)⟩
theorem Fail.deep {fx : Int → Bool} {sl : Int → List Seat} {s : Seat} {l : List Seat} {o : Int} {st st1 st' : Mst} (ht : st.taken s = some o) (h1 : Fail fx sl (sl o) (st.mark s) st1) (h : Fail fx sl l st1 st') : Fail fx sl (s :: l) st st' :=
  ⟨h.taken.trans h1.taken, h.seats.trans h1.seats, ((mono_mark st s).trans h1.mono).trans h.mono, fun x hx => by
    rcases List.mem_cons.1 hx with rfl | hx
    · exact h.mono _ (h1.mono _ (fset_same _ _ _))
    · exact h.all x hx, fun x hx h2 => by
      by_cases e : x = s
      · subst e; exact ⟨o, ht, .inr fun y hy => h.mono _ (h1.all y hy)⟩
      · cases hq : st1.tried x with
        | true =>
          obtain ⟨p, hp, hp2⟩ := h1.new x hq ((fset_ne _ _ e).trans h2)
          exact ⟨p, hp, hp2.imp id fun k y hy => h.mono _ (k y hy)⟩
        | false =>
          obtain ⟨p, hp, hp2⟩ := h.new x hx hq
          rw [h1.taken] at hp
          exact ⟨p, hp, hp2⟩⟩
theorem goF_fail {fx : Int → Bool} {sl : Int → List Seat} {U : List Seat} {rec : Int → Mst → Bool × Mst} {n : Nat} (hm : ∀ o st, Mono st (rec o st).2)
    (hr : ∀ o st, cntU U st.tried < n → (rec o st).1 = false → Fail fx sl (sl o) st (rec o st).2) (i : Int) : ∀ (l : List Seat) (st : Mst), (∀ s ∈ l, s ∈ U) → cntU U st.tried < n + 1 → (goF fx rec i l st).1 = false → Fail fx sl l st (goF fx rec i l st).2
  | [], st, _, _, _ => Fail.nil
  | s :: l, st, hU, hc, h => by
    have hl := fun x hx => hU x (List.mem_cons_of_mem _ hx)
    by_cases h0 : st.tried s = true
    · rw [goF_skip h0] at h ⊢; exact Fail.skip h0 (goF_fail hm hr i l st hl hc h)
    · have h' : st.tried s = false := by simpa using h0
      have hlt := cntU_mark (hU s (List.mem_cons_self ..)) h'
      cases ht : st.taken s with
      | none => rw [goF_free h' ht] at h; cases h
      | some o =>
        cases hf : fx o with
        | true => rw [goF_fix h' ht hf] at h ⊢; exact Fail.fix ht hf (goF_fail hm hr i l _ hl (by omega) h)
        | false =>
          cases hq : (rec o (st.mark s)).1 with
          | true => rw [goF_yes h' ht hf hq] at h; cases h
          | false =>
            rw [goF_no h' ht hf hq] at h ⊢
            have := cntU_mono (U := U) (hm o (st.mark s))
            exact Fail.deep ht (hr o _ (by omega) hq) (goF_fail hm hr i l _ hl (by omega) h)
theorem moveF_fail {fx : Int → Bool} {sl : Int → List Seat} {U : List Seat} (hU : ∀ i, ∀ s ∈ sl i, s ∈ U) : ∀ (n : Nat) (i : Int) (st : Mst), cntU U st.tried < n → (moveF fx sl n i st).1 = false → Fail fx sl (sl i) st (moveF fx sl n i st).2
  | 0, _, _, h, _ => absurd h (Nat.not_lt_zero _)
  | n + 1, i, st, h, hf => goF_fail (moveF_mono n) (moveF_fail hU n) i (sl i) st (hU i) h hf
/-- Who sits where, both ways. -/
def Cons (st : Mst) : Prop := ∀ i s, st.seats i = some s ↔ st.taken s = some i
/-- What a search that found a seat for i leaves: i's older seat, if it had one, is still told as its own. -/
structure Found (fx : Int → Bool) (sl : Int → List Seat) (l : List Seat) (i : Int) (st st' : Mst) : Prop where
  new : ∃ s ∈ l, st.tried s = false ∧ st'.tried s = true ∧ st'.seats i = some s ∧ ∀ x, st'.taken x = some i ↔ x = s ∨ st.seats i = some x
  cons : ∀ j, j ≠ i → ∀ s, st'.seats j = some s ↔ st'.taken s = some j
  keep : ∀ j, j ≠ i → (∀ s, st.seats j = some s → st.tried s = true ∨ fx j = true) → st'.seats j = st.seats j
  still : ∀ j s, st.seats j = some s → ∃ x, st'.seats j = some x
  fit : ∀ j s, st'.seats j = some s → st.seats j = some s ∨ (s ∈ sl j ∨ j = i ∧ s ∈ l)
theorem goF_found {fx : Int → Bool} {sl : Int → List Seat} {rec : Int → Mst → Bool × Mst} (hm : ∀ o st, Mono st (rec o st).2) {U : List Seat} {n : Nat}
    (hfl : ∀ o st, cntU U st.tried < n → (rec o st).1 = false → Fail fx sl (sl o) st (rec o st).2)
    (hr : ∀ o st, cntU U st.tried < n → Cons st → (∀ s, st.seats o = some s → st.tried s = true) → (rec o st).1 = true → Found fx sl (sl o) o st (rec o st).2) (i : Int) :
    ∀ (l : List Seat) (st : Mst), (∀ s ∈ l, s ∈ U) → cntU U st.tried < n + 1 → Cons st → (∀ s, st.seats i = some s → st.tried s = true) → (goF fx rec i l st).1 = true → Found fx sl l i st (goF fx rec i l st).2
  | [], st, _, _, _, _, h => nomatch h
  | s :: l, st, hU, hc, hC, hi, h => by
    have hl := fun x hx => hU x (List.mem_cons_of_mem _ hx)
    have widen : ∀ st1 st', Mono st st1 → st1.seats = st.seats → Found fx sl l i st1 st' → Found fx sl (s :: l) i st st' := by
      intro st1 st' hmo hs hF
      obtain ⟨x, hx, h1, h2, h3, h4⟩ := hF.new
      refine ⟨⟨x, List.mem_cons_of_mem _ hx, ?_, h2, h3, fun y => by rw [← hs]; exact h4 y⟩, hF.cons, fun j hj hk => ?_, fun j y hy => hF.still j y (by rw [hs]; exact hy), fun j y hy => ?_⟩
      · cases hq : st.tried x with
        | false => rfl
        | true => rw [hmo x hq] at h1; cases h1
      · rw [← hs]; exact hF.keep j hj fun y hy => (hk y (by rw [← hs]; exact hy)).imp (hmo y) id
      · rcases hF.fit j y hy with e | e | ⟨e1, e2⟩
        · rw [hs] at e; exact .inl e
        · exact .inr (.inl e)
        · exact .inr (.inr ⟨e1, List.mem_cons_of_mem _ e2⟩)
    by_cases h0 : st.tried s = true
    · rw [goF_skip h0] at h ⊢; exact widen st _ (Mono.refl _) rfl (goF_found hm hfl hr i l st hl hc hC hi h)
    · have h' : st.tried s = false := by simpa using h0
      have hlt := cntU_mark (hU s (List.mem_cons_self ..)) h'
      have hC1 : Cons (st.mark s) := hC
      have hi1 : ∀ x, (st.mark s).seats i = some x → (st.mark s).tried x = true := fun x hx => mono_mark st s x (hi x hx)
      cases ht : st.taken s with
      | none =>
        rw [goF_free h' ht]
        refine ⟨⟨s, List.mem_cons_self .., h', fset_same _ _ _, fset_same _ _ _, fun x => ?_⟩, fun j hj x => ?_, fun j hj _ => fset_ne _ _ hj, fun j x hx => ?_, fun j x hx => ?_⟩
        · show fset st.taken s (some i) x = some i ↔ _
          by_cases e : x = s
          · subst e; exact ⟨fun _ => .inl rfl, fun _ => fset_same _ _ _⟩
          · rw [fset_ne _ _ e, ← hC i x]; exact ⟨.inr, fun k => k.resolve_left e⟩
        · show fset st.seats i (some s) j = some x ↔ fset st.taken s (some i) x = some j
          rw [fset_ne _ _ hj, hC j x]
          by_cases e : x = s
          · subst e; rw [fset_same, ht]; exact ⟨fun k => (nomatch k), fun k => absurd (Option.some.inj k).symm hj⟩
          · rw [fset_ne _ _ e]
        · by_cases e : j = i
          · subst e; exact ⟨s, fset_same _ _ _⟩
          · exact ⟨x, (fset_ne _ _ e).trans hx⟩
        · by_cases e : j = i
          · subst e
            have : some s = some x := (fset_same st.seats j (some s)).symm.trans hx
            cases this
            exact .inr (.inr ⟨rfl, List.mem_cons_self ..⟩)
          · exact .inl ((fset_ne st.seats (some s) e).symm.trans hx)
      | some o =>
        cases hf : fx o with
        | true => rw [goF_fix h' ht hf] at h ⊢; exact widen (st.mark s) _ (mono_mark st s) rfl (goF_found hm hfl hr i l _ hl (by omega) hC1 hi1 h)
        | false =>
          cases hq : (rec o (st.mark s)).1 with
          | false =>
            rw [goF_no h' ht hf hq] at h ⊢
            have hF := hfl o (st.mark s) (by omega) hq
            have hcm := cntU_mono (U := U) hF.mono
            have hs2 : (rec o (st.mark s)).2.seats = st.seats := hF.seats
            have hC2 : Cons (rec o (st.mark s)).2 := fun a b => by rw [hF.seats, hF.taken]; exact hC a b
            exact widen _ _ ((mono_mark st s).trans hF.mono) hs2 (goF_found hm hfl hr i l _ hl (by omega) hC2 (fun x hx => hF.mono x (hi1 x (by rw [hs2] at hx; exact hx))) h)
          | true =>
            rw [goF_yes h' ht hf hq]
            have hos : st.seats o = some s := (hC o s).2 ht
            have hoi : o ≠ i := by
              rintro rfl
              rw [hi s hos] at h'; cases h'
            have hF := hr o (st.mark s) (by omega) hC1 (fun x hx => by
              have : some s = some x := hos.symm.trans hx
              cases this; exact fset_same _ _ _) hq
            obtain ⟨s2, hs2, n1, n2, n3, n4⟩ := hF.new
            have hne : s2 ≠ s := by
              rintro rfl
              rw [show (st.mark s2).tried s2 = true from fset_same _ _ _] at n1; cases n1
            have hkeepi : (rec o (st.mark s)).2.seats i = st.seats i := hF.keep i hoi.symm fun x hx => .inl (hi1 x hx)
            have hts : (rec o (st.mark s)).2.tried s = true := hm o (st.mark s) s (fset_same _ _ _)
            generalize rec o (st.mark s) = r at *
            refine ⟨⟨s, List.mem_cons_self .., h', ?_, fset_same _ _ _, fun x => ?_⟩, fun j hj x => ?_, fun j hj hk => ?_, fun j x hx => ?_, fun j x hx => ?_⟩
            · exact hts
            · show fset r.2.taken s (some i) x = some i ↔ _
              by_cases e : x = s
              · subst e; exact ⟨fun _ => .inl rfl, fun _ => fset_same _ _ _⟩
              · rw [fset_ne _ _ e, ← hF.cons i hoi.symm x, hkeepi]; exact ⟨.inr, fun k => k.resolve_left e⟩
            · show fset r.2.seats i (some s) j = some x ↔ fset r.2.taken s (some i) x = some j
              rw [fset_ne _ _ hj]
              by_cases ej : j = o
              · subst ej
                rw [n3]
                by_cases e : x = s
                · subst e; rw [fset_same]; exact ⟨fun k => absurd (Option.some.inj k) hne, fun k => absurd (Option.some.inj k).symm hj⟩
                · rw [fset_ne _ _ e, n4 x]
                  constructor
                  · intro k; exact .inl (Option.some.inj k).symm
                  · rintro (rfl | k)
                    · rfl
                    · have : some s = some x := hos.symm.trans k
                      exact absurd (Option.some.inj this).symm e
              · rw [hF.cons j ej x]
                by_cases e : x = s
                · subst e
                  rw [fset_same]
                  have : r.2.taken x = some o := (n4 x).2 (.inr hos)
                  rw [this]
                  exact ⟨fun k => absurd (Option.some.inj k).symm ej, fun k => absurd (Option.some.inj k).symm hj⟩
                · rw [fset_ne _ _ e]
            · show fset r.2.seats i (some s) j = _
              rw [fset_ne _ _ hj]
              refine hF.keep j ?_ fun x hx => (hk x hx).imp (mono_mark st s x) id
              rintro rfl
              rcases hk s hos with e | e
              · rw [e] at h'; cases h'
              · rw [e] at hf; cases hf
            · by_cases e : j = i
              · subst e; exact ⟨s, fset_same _ _ _⟩
              · obtain ⟨y, hy⟩ := hF.still j x hx
                exact ⟨y, (fset_ne _ _ e).trans hy⟩
            · by_cases e : j = i
              · subst e
                have : some s = some x := (fset_same r.2.seats j (some s)).symm.trans hx
                cases this
                exact .inr (.inr ⟨rfl, List.mem_cons_self ..⟩)
              · have hx' : r.2.seats j = some x := (fset_ne r.2.seats (some s) e).symm.trans hx
                rcases hF.fit j x hx' with k | k | ⟨k1, k2⟩
                · exact .inl k
                · exact .inr (.inl k)
                · subst k1; exact .inr (.inl k2)
end Bx
/- part A2 -/
namespace Bx
theorem moveF_found {fx : Int → Bool} {sl : Int → List Seat} {U : List Seat} (hU : ∀ i, ∀ s ∈ sl i, s ∈ U) : ∀ (n : Nat) (i : Int) (st : Mst), cntU U st.tried < n → Cons st → (∀ s, st.seats i = some s → st.tried s = true) → (moveF fx sl n i st).1 = true → Found fx sl (sl i) i st (moveF fx sl n i st).2
  | 0, _, _, h, _, _, _ => absurd h (Nat.not_lt_zero _)
  | n + 1, i, st, h, hC, hi, hf => goF_found (moveF_mono n) (moveF_fail hU n) (moveF_found hU n) i (sl i) st (hU i) h hC hi hf
theorem pig {α β : Type} [DecidableEq β] : ∀ (l : List α) (f : α → β) (m : List β), l.Nodup → (∀ x ∈ l, f x ∈ m) → (∀ x ∈ l, ∀ y ∈ l, f x = f y → x = y) → l.length ≤ m.length
  | [], _, _, _, _, _ => Nat.zero_le _
  | x :: l, f, m, hn, h, hi => by
    have hx := h x (List.mem_cons_self ..)
    have hn' := List.nodup_cons.1 hn
    have := pig l f (m.erase (f x)) hn'.2 (fun y hy => (List.mem_erase_of_ne (fun e => by
      have := hi y (List.mem_cons_of_mem _ hy) x (List.mem_cons_self ..) e
      subst this; exact hn'.1 hy)).2 (h y (List.mem_cons_of_mem _ hy))) (fun a ha b hb => hi a (List.mem_cons_of_mem _ ha) b (List.mem_cons_of_mem _ hb))
    rw [List.length_erase_of_mem hx] at this
    have := List.length_pos_of_mem hx
    simp only [List.length_cons]; omega
def reachB (fx : Int → Bool) (st st' : Mst) (town j : Int) : Bool := decide (j = town) || (!fx j && (match st.seats j with | some s => st'.tried s | none => false))
theorem reachB_iff {fx : Int → Bool} {st st' : Mst} {town j : Int} : reachB fx st st' town j = true ↔ j = town ∨ fx j = false ∧ ∃ s, st.seats j = some s ∧ st'.tried s = true := by
  unfold reachB
  cases hs : st.seats j with
  | none => simp
  | some s => simp
section
variable {fx : Int → Bool} {sl : Int → List Seat} {W : List Int} {st st' : Mst} {town : Int}
theorem reach_all (hC : Cons st) (h0 : ∀ s, st.tried s = false) (hF : Fail fx sl (sl town) st st') {a : Int} (ha : reachB fx st st' town a = true) : ∀ s ∈ sl a, st'.tried s = true := by
  rcases reachB_iff.1 ha with rfl | ⟨hf, s, hs, ht⟩
  · exact hF.all
  · obtain ⟨o, ho, h⟩ := hF.new s ht (h0 s)
    have : st.taken s = some a := (hC a s).1 hs
    rw [this] at ho; cases ho
    exact h.resolve_left (by rw [hf]; decide)
theorem no_seat (hW : W.Nodup) (hC : Cons st) (ht : st.seats town = none) (h0 : ∀ s, st.tried s = false) (hF : Fail fx sl (sl town) st st') (htW : town ∈ W) (hold : ∀ s o, st.taken s = some o → o ∈ W)
    (M : Int → Seat) (hM : ∀ j ∈ W, reachB fx st st' town j = true → M j ∈ sl j) (hinj : ∀ a ∈ W, ∀ b ∈ W, M a = M b → a = b) (hfix : ∀ j ∈ W, fx j = true → st.seats j = some (M j)) : False := by
  have key : ∀ a ∈ W.filter (reachB fx st st' town), ∃ o, st.taken (M a) = some o ∧ o ∈ (W.filter (reachB fx st st' town)).erase town ∧ st.seats o = some (M a) := by
    intro a ha
    obtain ⟨haW, har⟩ := List.mem_filter.1 ha
    have hMa := reach_all hC h0 hF har (M a) (hM a haW har)
    obtain ⟨o, ho, h⟩ := hF.new (M a) hMa (h0 _)
    have hso := (hC o (M a)).2 ho
    have hoW := hold _ _ ho
    have hfo : fx o = false := by
      cases hf : fx o with
      | false => rfl
      | true =>
        have h1 := hfix o hoW hf
        rw [hso] at h1
        have h2 := hinj a haW o hoW (Option.some.inj h1)
        subst h2
        rcases reachB_iff.1 har with rfl | ⟨h3, -⟩
        · rw [ht] at hso; cases hso
        · rw [h3] at hf; cases hf
    have hot : o ≠ town := by
      rintro rfl
      rw [ht] at hso; cases hso
    exact ⟨o, ho, (List.mem_erase_of_ne hot).2 (List.mem_filter.2 ⟨hoW, reachB_iff.2 (.inr ⟨hfo, _, hso, hMa⟩)⟩), hso⟩
  have htA : town ∈ W.filter (reachB fx st st' town) := List.mem_filter.2 ⟨htW, reachB_iff.2 (.inl rfl)⟩
  have hp := pig (W.filter (reachB fx st st' town)) (fun a => (st.taken (M a)).getD town) ((W.filter (reachB fx st st' town)).erase town) (hW.filter _)
    (fun a ha => by obtain ⟨o, h1, h2, -⟩ := key a ha; show (st.taken (M a)).getD town ∈ _; rw [h1]; exact h2)
    (fun a ha b hb e => by
      obtain ⟨o, h1, -, h3⟩ := key a ha
      obtain ⟨q, k1, -, k3⟩ := key b hb
      simp only [h1, k1, Option.getD_some] at e
      subst e
      rw [h3] at k3
      exact hinj a (List.mem_filter.1 ha).1 b (List.mem_filter.1 hb).1 (Option.some.inj k3))
  rw [List.length_erase_of_mem htA] at hp
  have := List.length_pos_of_mem htA
  omega
/-- The towns that a search that found nothing came to have fewer seats than they are. -/
theorem too_few {U : List Seat} (hUn : U.Nodup) (hC : Cons st) (ht : st.seats town = none) (h0 : ∀ s, st.tried s = false) (hF : Fail (fun _ => false) sl (sl town) st st') (htW : town ∈ W) (hold : ∀ s o, st.taken s = some o → o ∈ W) :
    (∀ a ∈ W.filter (reachB (fun _ => false) st st' town), ∀ s ∈ sl a, st'.tried s = true) ∧ (U.filter st'.tried).length < (W.filter (reachB (fun _ => false) st st' town)).length := by
  refine ⟨fun a ha => reach_all hC h0 hF (List.mem_filter.1 ha).2, ?_⟩
  have htA : town ∈ W.filter (reachB (fun _ => false) st st' town) := List.mem_filter.2 ⟨htW, reachB_iff.2 (.inl rfl)⟩
  have key : ∀ s ∈ U.filter st'.tried, ∃ o, st.taken s = some o ∧ o ∈ (W.filter (reachB (fun _ => false) st st' town)).erase town ∧ st.seats o = some s := by
    intro s hs
    have hts := (List.mem_filter.1 hs).2
    obtain ⟨o, ho, -⟩ := hF.new s hts (h0 s)
    have hso := (hC o s).2 ho
    have hot : o ≠ town := by
      rintro rfl
      rw [ht] at hso; cases hso
    exact ⟨o, ho, (List.mem_erase_of_ne hot).2 (List.mem_filter.2 ⟨hold _ _ ho, reachB_iff.2 (.inr ⟨rfl, _, hso, hts⟩)⟩), hso⟩
  have hp := pig (U.filter st'.tried) (fun s => (st.taken s).getD town) ((W.filter (reachB (fun _ => false) st st' town)).erase town) (hUn.filter _)
    (fun a ha => by obtain ⟨o, h1, h2, -⟩ := key a ha; show (st.taken a).getD town ∈ _; rw [h1]; exact h2)
    (fun a ha b hb e => by
      obtain ⟨o, h1, -, h3⟩ := key a ha
      obtain ⟨q, k1, -, k3⟩ := key b hb
      simp only [h1, k1, Option.getD_some] at e
      subst e
      rw [h3] at k3
      exact Option.some.inj k3)
  rw [List.length_erase_of_mem htA] at hp
  have := List.length_pos_of_mem htA
  omega
end
end Bx
/- part A3 -/
namespace Bx
/-- What a plan is made of: the tick now, the towns, their channels, the last tick by a channel, the room of a channel. -/
structure Pl where
  now : Int
  W : List Int
  chans : Int → List Int
  latest : Int → Int → Int
  room : Int → Int
def Pl.at (P : Pl) (i sent : Int) (l : List Int) : List (Int × Int) := (l.filter fun c => decide (sent ≤ P.latest i c)).map fun c => (c, sent)
/-- The pairs of a channel and a tick at which a town hears in time; as many ticks as there are towns. -/
def Pl.places (P : Pl) (i : Int) : List (Int × Int) := (List.range P.W.length).flatMap fun (d : Nat) => P.at i (P.now + (d : Int)) (P.chans i)
def Pl.nums (P : Pl) (x : Int × Int) : List Seat := (List.range (P.room x.1).toNat).map fun (k : Nat) => (x.1, x.2, (k : Int))
def Pl.sl (P : Pl) (i : Int) : List Seat := (P.places i).flatMap P.nums
def fdel {α β : Type} [DecidableEq α] (f : α → Option β) (k : α) : α → Option β := fun x => if x = k then none else f x
theorem fdel_same {α β : Type} [DecidableEq α] (f : α → Option β) (k : α) : fdel f k k = none := if_pos rfl
theorem fdel_ne {α β : Type} [DecidableEq α] (f : α → Option β) {k x : α} (h : x ≠ k) : fdel f k x = f x := if_neg h
def Pl.settle (P : Pl) (n : Nat) (fx : Int → Bool) (i : Int) (tk : Seat → Option Int) (st : Int → Option Seat) : Bool × Mst := moveF fx P.sl n i ⟨fun _ => false, tk, st⟩
/-- The maps of a plan: who has a seat; which seat one has; who is fixed. -/
structure Pst where
  taken : Seat → Option Int
  seats : Int → Option Seat
  fixed : Int → Bool
def Pst.free (p : Pst) (i : Int) : Pst := { p with taken := fdel p.taken ((p.seats i).getD (0, 0, 0)), seats := fdel p.seats i }
def Pst.sit (p : Pst) (s : Seat) (i : Int) : Pst := { p with taken := fset p.taken s (some i), seats := fset p.seats i (some s), fixed := fset p.fixed i true }
/-- The first one of some seats that nobody fixed has is given to a town. -/
def Pl.try (P : Pl) (n : Nat) (i : Int) (p : Pst) : List Seat → Bool × Pst
  | [] => (false, p)
  | s :: l => match p.taken s with
    | none => (true, (p.free i).sit s i)
    | some o => if p.fixed o = true then P.try n i p l
      else if o = i then (true, (p.free i).sit s i)
      else if (P.settle n (((p.free i).free o).sit s i).fixed o (((p.free i).free o).sit s i).taken (((p.free i).free o).sit s i).seats).1 = true
        then (true, ⟨(P.settle n (((p.free i).free o).sit s i).fixed o (((p.free i).free o).sit s i).taken (((p.free i).free o).sit s i).seats).2.taken, (P.settle n (((p.free i).free o).sit s i).fixed o (((p.free i).free o).sit s i).taken (((p.free i).free o).sit s i).seats).2.seats, (((p.free i).free o).sit s i).fixed⟩)
        else (false, { p with fixed := fset p.fixed i false })
def Pl.pick (P : Pl) (n : Nat) (i : Int) : List (Int × Int) → Pst → Pst
  | [], p => p
  | x :: l, p => if (P.try n i p (P.nums x)).1 = true then (P.try n i p (P.nums x)).2 else P.pick n i l (P.try n i p (P.nums x)).2
structure Slot where
  town : Int
  channel : Int
  sent : Int
deriving DecidableEq
def Pl.seatAll (P : Pl) (n : Nat) : List Int → (Seat → Option Int) → (Int → Option Seat) → Option ((Seat → Option Int) × (Int → Option Seat))
  | [], tk, st => some (tk, st)
  | i :: l, tk, st => if (P.settle n (fun _ => false) i tk st).1 = true then P.seatAll n l (P.settle n (fun _ => false) i tk st).2.taken (P.settle n (fun _ => false) i tk st).2.seats else none
def slotOf (p : Pst) (i : Int) : Slot := ⟨i, ((p.seats i).getD (0, 0, 0)).1, ((p.seats i).getD (0, 0, 0)).2.1⟩
def Pl.fixAll (P : Pl) (n : Nat) : List Int → Pst → List Slot
  | [], _ => []
  | i :: l, p => slotOf (P.pick n i (P.places i) p) i :: P.fixAll n l (P.pick n i (P.places i) p)
/-- The plan; none: there is none. n: how deep a search may go. -/
def Pl.plan (P : Pl) (n : Nat) : Option (List Slot) :=
  match P.seatAll n P.W (fun _ => none) (fun _ => none) with
  | none => none
  | some (tk, st) => some (P.fixAll n P.W ⟨tk, st, fun _ => false⟩)
/-! ### the seats of a town -/
def Pl.Fits (P : Pl) (i : Int) (s : Seat) : Prop := s.1 ∈ P.chans i ∧ P.now ≤ s.2.1 ∧ s.2.1 ≤ P.latest i s.1 ∧ 0 ≤ s.2.2 ∧ s.2.2 < P.room s.1
theorem mem_at {P : Pl} {i sent : Int} {l : List Int} {x : Int × Int} : x ∈ P.at i sent l ↔ x.1 ∈ l ∧ x.2 = sent ∧ sent ≤ P.latest i x.1 := by
  obtain ⟨c, s⟩ := x
  simp only [Pl.at, List.mem_map, List.mem_filter, decide_eq_true_eq, Prod.mk.injEq]
  constructor
  · rintro ⟨a, ⟨h1, h2⟩, rfl, rfl⟩; exact ⟨h1, rfl, h2⟩
  · rintro ⟨h1, rfl, h2⟩; exact ⟨c, ⟨h1, h2⟩, rfl, rfl⟩
theorem mem_places {P : Pl} {i : Int} {x : Int × Int} : x ∈ P.places i ↔ x.1 ∈ P.chans i ∧ P.now ≤ x.2 ∧ x.2 < P.now + P.W.length ∧ x.2 ≤ P.latest i x.1 := by
  simp only [Pl.places, List.mem_flatMap, List.mem_range, mem_at]
  constructor
  · rintro ⟨d, h1, h2, h3, h4⟩; exact ⟨h2, by omega, by omega, by omega⟩
  · rintro ⟨h1, h2, h3, h4⟩; exact ⟨(x.2 - P.now).toNat, by omega, h1, by omega, by omega⟩
theorem mem_nums {P : Pl} {x : Int × Int} {s : Seat} : s ∈ P.nums x ↔ s.1 = x.1 ∧ s.2.1 = x.2 ∧ 0 ≤ s.2.2 ∧ s.2.2 < P.room x.1 := by
  obtain ⟨a, b, c⟩ := s
  simp only [Pl.nums, List.mem_map, List.mem_range, Prod.mk.injEq]
  constructor
  · rintro ⟨k, h1, rfl, rfl, rfl⟩; exact ⟨rfl, rfl, by omega, by omega⟩
  · rintro ⟨rfl, rfl, h3, h4⟩; exact ⟨c.toNat, by omega, rfl, rfl, by omega⟩
theorem mem_sl {P : Pl} {i : Int} {s : Seat} : s ∈ P.sl i ↔ P.Fits i s ∧ s.2.1 < P.now + P.W.length := by
  simp only [Pl.sl, List.mem_flatMap, mem_places, mem_nums, Pl.Fits]
  constructor
  · rintro ⟨x, ⟨h1, h2, h3, h4⟩, h5, h6, h7, h8⟩
    rw [← h5] at h1 h4 h8; rw [← h6] at h2 h3 h4
    exact ⟨⟨h1, h2, h4, h7, h8⟩, h3⟩
  · rintro ⟨⟨h1, h2, h3, h4, h5⟩, h6⟩
    exact ⟨(s.1, s.2.1), ⟨h1, h2, h6, h3⟩, rfl, rfl, h4, h5⟩
/-- All seats there are, at so many ticks. -/
def Pl.all (P : Pl) (C : List Int) : List Seat := C.flatMap fun c => (List.range P.W.length).flatMap fun (d : Nat) => P.nums (c, P.now + (d : Int))
theorem sl_allC {P : Pl} {C : List Int} (hC : ∀ i, ∀ c ∈ P.chans i, c ∈ C) (i : Int) : ∀ s ∈ P.sl i, s ∈ P.all C := by
  intro s hs
  obtain ⟨⟨h1, h2, h3, h4, h5⟩, h6⟩ := mem_sl.1 hs
  simp only [Pl.all, List.mem_flatMap, List.mem_range, mem_nums]
  exact ⟨s.1, hC i _ h1, (s.2.1 - P.now).toNat, by omega, rfl, by simp; omega, h4, h5⟩
theorem len_flatMap_le {α β : Type} (f : α → List β) (k : Nat) : ∀ l : List α, (∀ x ∈ l, (f x).length ≤ k) → (l.flatMap f).length ≤ l.length * k
  | [], _ => by simp
  | x :: l, h => by
    have := len_flatMap_le f k l fun y hy => h y (List.mem_cons_of_mem _ hy)
    have := h x (List.mem_cons_self ..)
    simp only [List.flatMap_cons, List.length_append, List.length_cons, Nat.succ_mul]
    omega
theorem all_len {P : Pl} {C : List Int} (hr : ∀ c, P.room c ≤ 20) : (P.all C).length ≤ C.length * (P.W.length * 20) := by
  refine len_flatMap_le _ _ _ fun c _ => ?_
  refine Nat.le_trans (len_flatMap_le _ 20 _ fun d _ => ?_) (by simp)
  simp only [Pl.nums, List.length_map, List.length_range]
  have := hr c
  omega
theorem cntU_le (U : List Seat) (tr : Seat → Bool) : cntU U tr ≤ U.length := List.length_filter_le _ _
/-! ### the search, once more -/
/-- A seat that is tried has somebody; so there are fewer of them than towns. -/
theorem tried_few {fx : Int → Bool} {sl : Int → List Seat} {W : List Int} {st st' : Mst} {town : Int} (hC : Cons st) (ht : st.seats town = none) (h0 : ∀ s, st.tried s = false) {l : List Seat} (hF : Fail fx sl l st st') (htW : town ∈ W) (hold : ∀ s o, st.taken s = some o → o ∈ W)
    {T : List Seat} (hT : T.Nodup) (hTt : ∀ s ∈ T, st'.tried s = true) : T.length < W.length := by
  have key : ∀ s ∈ T, ∃ o, st.taken s = some o ∧ o ∈ W.erase town ∧ st.seats o = some s := by
    intro s hs
    obtain ⟨o, ho, -⟩ := hF.new s (hTt s hs) (h0 s)
    have hso := (hC o s).2 ho
    have hot : o ≠ town := by
      rintro rfl
      rw [ht] at hso; cases hso
    exact ⟨o, ho, (List.mem_erase_of_ne hot).2 (hold _ _ ho), hso⟩
  have hp := pig T (fun s => (st.taken s).getD town) (W.erase town) hT
    (fun a ha => by obtain ⟨o, h1, h2, -⟩ := key a ha; show (st.taken a).getD town ∈ _; rw [h1]; exact h2)
    (fun a ha b hb e => by
      obtain ⟨o, h1, -, h3⟩ := key a ha
      obtain ⟨q, k1, -, k3⟩ := key b hb
      simp only [h1, k1, Option.getD_some] at e
      subst e
      rw [h3] at k3
      exact Option.some.inj k3)
  rw [List.length_erase_of_mem htW] at hp
  have := List.length_pos_of_mem htW
  omega
/-- A town whose seats are all tried has no seats beyond the ticks that are looked at. -/
theorem fits_sl {P : Pl} {fx : Int → Bool} {st st' : Mst} {town : Int} (hC : Cons st) (ht : st.seats town = none) (h0 : ∀ s, st.tried s = false) {l : List Seat} (hF : Fail fx P.sl l st st') (htW : town ∈ P.W) (hold : ∀ s o, st.taken s = some o → o ∈ P.W)
    {a : Int} (ha : ∀ s ∈ P.sl a, st'.tried s = true) {s : Seat} (hs : P.Fits a s) : s ∈ P.sl a := by
  refine mem_sl.2 ⟨hs, ?_⟩
  rcases Int.lt_or_le s.2.1 (P.now + P.W.length) with h | h
  · exact h
  · exfalso
    obtain ⟨h1, h2, h3, h4, h5⟩ := hs
    have := tried_few hC ht h0 hF htW hold (T := (List.range P.W.length).map fun (d : Nat) => ((s.1, P.now + (d : Int), 0) : Seat)) (by
      refine List.Pairwise.map _ (R := (· ≠ ·)) (fun a b hab e => hab ?_) List.nodup_range
      simp only [Prod.mk.injEq] at e
      omega) (fun x hx => by
      simp only [List.mem_map, List.mem_range] at hx
      obtain ⟨d, hd, rfl⟩ := hx
      exact ha _ (mem_sl.2 ⟨⟨h1, by show P.now ≤ P.now + (d : Int); omega, by show P.now + (d : Int) ≤ P.latest a s.1; omega, by simp, by show (0 : Int) < P.room s.1; omega⟩, by show P.now + (d : Int) < _; omega⟩))
    simp at this
end Bx
/- part A5 -/
namespace Bx
/-- Who sits where; each where it can. -/
structure Sat (P : Pl) (tk : Seat → Option Int) (st : Int → Option Seat) : Prop where
  cons : ∀ i s, st i = some s ↔ tk s = some i
  fit : ∀ i s, st i = some s → i ∈ P.W ∧ s ∈ P.sl i
theorem Sat.none (P : Pl) : Sat P (fun _ => none) (fun _ => none) := ⟨fun _ _ => ⟨fun h => (nomatch h), fun h => (nomatch h)⟩, fun _ _ h => (nomatch h)⟩
theorem all_nodup {P : Pl} {C : List Int} (hC : C.Nodup) : (P.all C).Nodup := by
  refine List.pairwise_flatMap.2 ⟨fun c _ => List.pairwise_flatMap.2 ⟨fun d _ => ?_, ?_⟩, ?_⟩
  · refine List.Pairwise.map _ (R := (· ≠ ·)) (fun a b hab e => hab ?_) List.nodup_range
    simp only [Prod.mk.injEq] at e
    omega
  · refine List.Pairwise.imp ?_ (List.nodup_range (n := P.W.length))
    intro a b hab x hx y hy e
    subst e
    have h1 := (mem_nums.1 hx).2.1
    have h2 := (mem_nums.1 hy).2.1
    simp only at h1 h2
    omega
  · refine List.Pairwise.imp ?_ hC
    intro a b hab x hx y hy e
    subst e
    simp only [List.mem_flatMap, mem_nums] at hx hy
    obtain ⟨_, _, h1, _⟩ := hx
    obtain ⟨_, _, h2, _⟩ := hy
    exact hab (h1.symm.trans h2)
section
variable {P : Pl} {C : List Int} {n : Nat}
/-- A search for a town without a seat that finds one. -/
theorem settle_yes (hC : ∀ i, ∀ c ∈ P.chans i, c ∈ C) (hn : (P.all C).length < n) {fx : Int → Bool} {i : Int} {tk : Seat → Option Int} {st : Int → Option Seat} (hS : Sat P tk st) (hi : st i = none) (hiW : i ∈ P.W) (h : (P.settle n fx i tk st).1 = true) :
    Sat P (P.settle n fx i tk st).2.taken (P.settle n fx i tk st).2.seats ∧ (∀ j, (j = i ∨ st j ≠ none) → (P.settle n fx i tk st).2.seats j ≠ none) ∧ (∀ j, j ≠ i → (st j = none ∨ fx j = true) → (P.settle n fx i tk st).2.seats j = st j) := by
  have hF : Found fx P.sl (P.sl i) i ⟨fun _ => false, tk, st⟩ (P.settle n fx i tk st).2 := moveF_found (sl_allC hC) n i _ (Nat.lt_of_le_of_lt (cntU_le _ _) hn) hS.cons (fun s hs => by simp only [hi] at hs; cases hs) h
  obtain ⟨s, hs, -, -, n3, n4⟩ := hF.new
  generalize (P.settle n fx i tk st).2 = r at *
  refine ⟨⟨fun j x => ?_, fun j x hx => ?_⟩, fun j hj => ?_, fun j hj hk => ?_⟩
  · by_cases e : j = i
    · subst e
      rw [n3, n4 x]
      constructor
      · intro k; exact .inl (Option.some.inj k).symm
      · rintro (rfl | k)
        · rfl
        · exact absurd (hi.symm.trans k) (by simp)
    · exact hF.cons j e x
  · rcases hF.fit j x hx with k | k | ⟨rfl, k⟩
    · exact hS.fit j x k
    · by_cases e : j = i
      · subst e; exact ⟨hiW, k⟩
      · cases hq : st j with
        | some y => exact ⟨(hS.fit j y hq).1, k⟩
        | none =>
          have := hF.keep j e fun y hy => by simp only [hq] at hy; cases hy
          rw [hx] at this
          simp only [hq] at this
          cases this
    · exact ⟨hiW, k⟩
  · rcases hj with rfl | hj
    · rw [n3]; simp
    · cases hq : st j with
      | none => exact absurd hq hj
      | some y => obtain ⟨x, hx⟩ := hF.still j y hq; rw [hx]; simp
  · exact hF.keep j hj fun y hy => by
      rcases hk with k | k
      · simp only [k] at hy; cases hy
      · exact .inr k
theorem settle_no (hC : ∀ i, ∀ c ∈ P.chans i, c ∈ C) (hn : (P.all C).length < n) {fx : Int → Bool} {i : Int} {tk : Seat → Option Int} {st : Int → Option Seat} (h : (P.settle n fx i tk st).1 = false) :
    Fail fx P.sl (P.sl i) ⟨fun _ => false, tk, st⟩ (P.settle n fx i tk st).2 := moveF_fail (sl_allC hC) n i _ (Nat.lt_of_le_of_lt (cntU_le _ _) hn) h
/-- Some of the towns, and seats that are all there are for them: fewer than they. -/
def Few (P : Pl) : Prop := ∃ (p : Int → Bool) (T : List Seat), (∀ a ∈ P.W.filter p, ∀ s, P.Fits a s → s ∈ T) ∧ T.length < (P.W.filter p).length
theorem few_of (hCn : C.Nodup) (hC : ∀ i, ∀ c ∈ P.chans i, c ∈ C) (hn : (P.all C).length < n) {i : Int} {tk : Seat → Option Int} {st : Int → Option Seat} (hS : Sat P tk st) (hi : st i = none) (hiW : i ∈ P.W) (h : (P.settle n (fun _ => false) i tk st).1 = false) : Few P := by
  have hF := settle_no hC hn h
  have hold : ∀ s o, tk s = some o → o ∈ P.W := fun s o ho => (hS.fit o s ((hS.cons o s).2 ho)).1
  have hCo : Cons ⟨fun _ => false, tk, st⟩ := hS.cons
  obtain ⟨h1, h2⟩ := too_few (W := P.W) (all_nodup hCn) hCo hi (fun _ => rfl) hF hiW hold
  refine ⟨_, _, fun a ha s hs => ?_, h2⟩
  have hsl := fits_sl hCo hi (fun _ => rfl) hF hiW hold (h1 a ha) hs
  exact List.mem_filter.2 ⟨sl_allC hC a s hsl, h1 a ha s hsl⟩
theorem seatAll_some (hC : ∀ i, ∀ c ∈ P.chans i, c ∈ C) (hn : (P.all C).length < n) : ∀ (l : List Int) (tk : Seat → Option Int) (st : Int → Option Seat) r, l.Nodup → (∀ i ∈ l, i ∈ P.W) → (∀ i ∈ l, st i = none) → Sat P tk st → P.seatAll n l tk st = some r → Sat P r.1 r.2 ∧ ∀ i, (i ∈ l ∨ st i ≠ none) → r.2 i ≠ none
  | [], tk, st, r, _, _, _, hS, h => by
    cases h
    exact ⟨hS, fun i hi => hi.resolve_left (by simp)⟩
  | i :: l, tk, st, r, hn', hW, h0, hS, h => by
    rw [Pl.seatAll] at h
    have hi := h0 i (List.mem_cons_self ..)
    have hiW := hW i (List.mem_cons_self ..)
    split at h
    next hq =>
      obtain ⟨hS2, h1, h2⟩ := settle_yes hC hn hS hi hiW hq
      obtain ⟨h3, h4⟩ := seatAll_some hC hn l _ _ r (List.nodup_cons.1 hn').2 (fun j hj => hW j (List.mem_cons_of_mem _ hj)) (fun j hj => by
        rw [h2 j (fun e => (List.nodup_cons.1 hn').1 (e ▸ hj)) (.inl (h0 j (List.mem_cons_of_mem _ hj)))]
        exact h0 j (List.mem_cons_of_mem _ hj)) hS2 h
      refine ⟨h3, fun j hj => ?_⟩
      rcases hj with hj | hj
      · rcases List.mem_cons.1 hj with rfl | hj
        · exact h4 j (.inr (h1 j (.inl rfl)))
        · exact h4 j (.inl hj)
      · exact h4 j (.inr (h1 j (.inr hj)))
    next => cases h
theorem seatAll_none (hCn : C.Nodup) (hC : ∀ i, ∀ c ∈ P.chans i, c ∈ C) (hn : (P.all C).length < n) : ∀ (l : List Int) (tk : Seat → Option Int) (st : Int → Option Seat), l.Nodup → (∀ i ∈ l, i ∈ P.W) → (∀ i ∈ l, st i = none) → Sat P tk st → P.seatAll n l tk st = none → Few P
  | [], tk, st, _, _, _, hS, h => by cases h
  | i :: l, tk, st, hn', hW, h0, hS, h => by
    rw [Pl.seatAll] at h
    have hi := h0 i (List.mem_cons_self ..)
    have hiW := hW i (List.mem_cons_self ..)
    split at h
    next hq =>
      obtain ⟨hS2, h1, h2⟩ := settle_yes hC hn hS hi hiW hq
      exact seatAll_none hCn hC hn l _ _ (List.nodup_cons.1 hn').2 (fun j hj => hW j (List.mem_cons_of_mem _ hj)) (fun j hj => by
        rw [h2 j (fun e => (List.nodup_cons.1 hn').1 (e ▸ hj)) (.inl (h0 j (List.mem_cons_of_mem _ hj)))]
        exact h0 j (List.mem_cons_of_mem _ hj)) hS2 h
    next hq => exact few_of hCn hC hn hS hi hiW (by simpa using hq)
end
/-! ### seats for all -/
structure Mat (P : Pl) (M : Int → Seat) : Prop where
  inj : ∀ a ∈ P.W, ∀ b ∈ P.W, M a = M b → a = b
  fit : ∀ j ∈ P.W, P.Fits j (M j)
theorem Few.no {P : Pl} (hW : P.W.Nodup) (h : Few P) {M : Int → Seat} (hM : Mat P M) : False := by
  obtain ⟨p, T, h1, h2⟩ := h
  have := pig (P.W.filter p) M T (hW.filter _) (fun a ha => h1 a ha _ (hM.fit a (List.mem_filter.1 ha).1)) (fun a ha b hb e => hM.inj a (List.mem_filter.1 ha).1 b (List.mem_filter.1 hb).1 e)
  omega
abbrev plc (s : Seat) : Int × Int := (s.1, s.2.1)
def sw (a b s : Seat) : Seat := if s = a then b else if s = b then a else s
theorem sw_inj {a b x y : Seat} (h : sw a b x = sw a b y) : x = y := by
  unfold sw at h
  split at h <;> split at h <;> (try split at h) <;> (try split at h) <;> simp_all
theorem sw_plc {a b s : Seat} (h : plc a = plc b) : plc (sw a b s) = plc s := by
  unfold sw; split
  · next e => rw [e, h]
  · split
    · next e => rw [e, h]
    · rfl
theorem Pl.Fits.of {P : Pl} {j : Int} {s s' : Seat} (h : P.Fits j s) (hp : plc s' = plc s) (h0 : 0 ≤ s'.2.2) (h1 : s'.2.2 < P.room s'.1) : P.Fits j s' := by
  simp only [Prod.mk.injEq] at hp
  exact ⟨by rw [hp.1]; exact h.1, by rw [hp.2]; exact h.2.1, by rw [hp.1, hp.2]; exact h.2.2.1, h0, h1⟩
theorem Mat.swap {P : Pl} {M : Int → Seat} (hM : Mat P M) {a b : Seat} (hp : plc a = plc b) (ha : 0 ≤ a.2.2 ∧ a.2.2 < P.room a.1) (hb : 0 ≤ b.2.2 ∧ b.2.2 < P.room b.1) : Mat P (fun j => sw a b (M j)) :=
  ⟨fun x hx y hy e => hM.inj x hx y hy (sw_inj e), fun j hj => by
    have hf := hM.fit j hj
    refine hf.of (sw_plc hp) ?_ ?_
    · show 0 ≤ (sw a b (M j)).2.2
      unfold sw; split
      · exact hb.1
      · split
        · exact ha.1
        · exact hf.2.2.2.1
    · show (sw a b (M j)).2.2 < P.room (sw a b (M j)).1
      unfold sw; split
      · exact hb.2
      · split
        · exact ha.2
        · exact hf.2.2.2.2⟩
/-- The numbers can be taken as they are. -/
theorem align {P : Pl} {tk : Seat → Option Int} {st : Int → Option Seat} (hS : Sat P tk st) : ∀ (D : List Int), (∀ j ∈ D, j ∈ P.W) → D.Nodup → ∀ M : Int → Seat, Mat P M → (∀ j ∈ D, ∃ s, st j = some s ∧ plc (M j) = plc s) →
    ∃ M', Mat P M' ∧ (∀ j ∈ D, st j = some (M' j)) ∧ ∀ j, plc (M' j) = plc (M j)
  | [], _, _, M, hM, _ => ⟨M, hM, fun _ h => (nomatch h), fun _ => rfl⟩
  | d :: D, hD, hn, M, hM, h => by
    obtain ⟨M1, h1, h2, h3⟩ := align hS D (fun j hj => hD j (List.mem_cons_of_mem _ hj)) (List.nodup_cons.1 hn).2 M hM fun j hj => h j (List.mem_cons_of_mem _ hj)
    obtain ⟨s, hs, hp⟩ := h d (List.mem_cons_self ..)
    have hdW := hD d (List.mem_cons_self ..)
    have hf1 := h1.fit d hdW
    have hf2 := (mem_sl.1 (hS.fit d s hs).2).1
    have hp1 : plc (M1 d) = plc s := (h3 d).trans hp
    refine ⟨fun j => sw (M1 d) s (M1 j), h1.swap hp1 hf1.2.2.2 hf2.2.2.2, fun j hj => ?_, fun j => (sw_plc hp1).trans (h3 j)⟩
    rcases List.mem_cons.1 hj with rfl | hj
    · rw [hs]; congr 1; exact (if_pos rfl).symm
    · have hjd : j ≠ d := fun e => (List.nodup_cons.1 hn).1 (e ▸ hj)
      have hjs := h2 j hj
      rw [hjs]; congr 1
      refine ((if_neg (fun e => hjd (h1.inj j (hD j (List.mem_cons_of_mem _ hj)) d hdW e))).trans (if_neg ?_)).symm
      intro e
      rw [e] at hjs
      have := ((hS.cons j s).1 hjs).symm.trans ((hS.cons d s).1 hs)
      exact hjd (Option.some.inj this)
end Bx
/- part A6 -/
namespace Bx
section
variable {P : Pl} {p : Pst} {i o : Int} {s si : Seat}
theorem sit1 (hS : Sat P p.taken p.seats) (hi : p.seats i = some si) (hs : s ∈ P.sl i) (hiW : i ∈ P.W) (ht : p.taken s = none ∨ p.taken s = some i) :
    Sat P ((p.free i).sit s i).taken ((p.free i).sit s i).seats ∧ (∀ j, j ≠ i → ((p.free i).sit s i).seats j = p.seats j) ∧ ((p.free i).sit s i).seats i = some s := by
  have e1 : ∀ j, j ≠ i → ((p.free i).sit s i).seats j = p.seats j := fun j hj => (fset_ne _ _ hj).trans (fdel_ne _ hj)
  have e2 : ((p.free i).sit s i).seats i = some s := fset_same _ _ _
  have e3 : ((p.free i).sit s i).taken s = some i := fset_same _ _ _
  have e4 : ∀ x, x ≠ s → ((p.free i).sit s i).taken x = fdel p.taken si x := fun x hx => (fset_ne _ _ hx).trans (by simp [Pst.free, hi])
  have hti := (hS.cons i si).1 hi
  refine ⟨⟨fun j x => ?_, fun j x hx => ?_⟩, e1, e2⟩
  · by_cases ej : j = i
    · subst ej
      rw [e2]
      by_cases ex : x = s
      · subst ex; rw [e3]; exact ⟨fun _ => rfl, fun _ => rfl⟩
      · rw [e4 x ex]
        refine ⟨fun h => absurd (Option.some.inj h).symm ex, fun h => ?_⟩
        by_cases e : x = si
        · subst e; rw [fdel_same] at h; cases h
        · rw [fdel_ne _ e] at h
          have := hi.symm.trans ((hS.cons j x).2 h)
          exact absurd (Option.some.inj this).symm e
    · rw [e1 j ej, hS.cons j x]
      by_cases ex : x = s
      · subst ex
        rw [e3]
        constructor
        · intro h; rcases ht with k | k <;> rw [k] at h
          · cases h
          · exact h
        · intro h; exact absurd (Option.some.inj h).symm ej
      · rw [e4 x ex]
        by_cases e : x = si
        · subst e
          rw [fdel_same, hti]
          exact ⟨fun h => absurd (Option.some.inj h).symm ej, fun h => (nomatch h)⟩
        · rw [fdel_ne _ e]
  · by_cases ej : j = i
    · subst ej; rw [e2] at hx; cases hx; exact ⟨hiW, hs⟩
    · rw [e1 j ej] at hx; exact hS.fit j x hx
theorem sit2 (hS : Sat P p.taken p.seats) (hi : p.seats i = some si) (hs : s ∈ P.sl i) (hiW : i ∈ P.W) (ho : p.taken s = some o) (hoi : o ≠ i) :
    Sat P (((p.free i).free o).sit s i).taken (((p.free i).free o).sit s i).seats ∧ (∀ j, j ≠ i → j ≠ o → (((p.free i).free o).sit s i).seats j = p.seats j) ∧ (((p.free i).free o).sit s i).seats i = some s ∧ (((p.free i).free o).sit s i).seats o = none := by
  have hos := (hS.cons o s).2 ho
  have e0 : (p.free i).seats o = some s := (fdel_ne _ hoi).trans hos
  have e1 : ∀ j, j ≠ i → j ≠ o → (((p.free i).free o).sit s i).seats j = p.seats j := fun j hj hk => (fset_ne _ _ hj).trans ((fdel_ne _ hk).trans (fdel_ne _ hj))
  have e2 : (((p.free i).free o).sit s i).seats i = some s := fset_same _ _ _
  have e5 : (((p.free i).free o).sit s i).seats o = none := (fset_ne _ _ hoi).trans (fdel_same _ _)
  have e3 : (((p.free i).free o).sit s i).taken s = some i := fset_same _ _ _
  have e4 : ∀ x, x ≠ s → (((p.free i).free o).sit s i).taken x = fdel p.taken si x := fun x hx => (fset_ne _ _ hx).trans (by
    show fdel (p.free i).taken (((p.free i).seats o).getD (0, 0, 0)) x = _
    rw [e0]
    exact (fdel_ne _ hx).trans (by simp [Pst.free, hi]))
  have hti := (hS.cons i si).1 hi
  refine ⟨⟨fun j x => ?_, fun j x hx => ?_⟩, e1, e2, e5⟩
  · by_cases ej : j = i
    · subst ej
      rw [e2]
      by_cases ex : x = s
      · subst ex; rw [e3]; exact ⟨fun _ => rfl, fun _ => rfl⟩
      · rw [e4 x ex]
        refine ⟨fun h => absurd (Option.some.inj h).symm ex, fun h => ?_⟩
        by_cases e : x = si
        · subst e; rw [fdel_same] at h; cases h
        · rw [fdel_ne _ e] at h
          have := hi.symm.trans ((hS.cons j x).2 h)
          exact absurd (Option.some.inj this).symm e
    · by_cases ek : j = o
      · subst ek
        rw [e5]
        refine ⟨fun h => (nomatch h), fun h => ?_⟩
        by_cases ex : x = s
        · subst ex; rw [e3] at h; exact absurd (Option.some.inj h).symm ej
        · rw [e4 x ex] at h
          by_cases e : x = si
          · subst e; rw [fdel_same] at h; cases h
          · rw [fdel_ne _ e] at h
            have := hos.symm.trans ((hS.cons j x).2 h)
            exact absurd (Option.some.inj this).symm ex
      · rw [e1 j ej ek, hS.cons j x]
        by_cases ex : x = s
        · subst ex
          rw [e3, ho]
          exact ⟨fun h => absurd (Option.some.inj h).symm ek, fun h => absurd (Option.some.inj h).symm ej⟩
        · rw [e4 x ex]
          by_cases e : x = si
          · subst e
            rw [fdel_same, hti]
            exact ⟨fun h => absurd (Option.some.inj h).symm ej, fun h => (nomatch h)⟩
          · rw [fdel_ne _ e]
  · by_cases ej : j = i
    · subst ej; rw [e2] at hx; cases hx; exact ⟨hiW, hs⟩
    · by_cases ek : j = o
      · subst ek; rw [e5] at hx; cases hx
      · rw [e1 j ej ek] at hx; exact hS.fit j x hx
end
structure Inv (P : Pl) (p : Pst) (D : List Int) : Prop where
  sat : Sat P p.taken p.seats
  full : ∀ j ∈ P.W, ∃ s, p.seats j = some s
  fix : ∀ j, p.fixed j = true ↔ j ∈ D
  sub : ∀ j ∈ D, j ∈ P.W
  nod : D.Nodup
/-- A way to seat all, with the slots of D. -/
def Agree (p : Pst) (D : List Int) (M : Int → Seat) : Prop := ∀ j ∈ D, ∃ s, p.seats j = some s ∧ plc (M j) = plc s
theorem sl_of {P : Pl} {i : Int} {x : Int × Int} (hx : x ∈ P.places i) {s : Seat} (hs : s ∈ P.nums x) : s ∈ P.sl i := List.mem_flatMap.2 ⟨x, hx, hs⟩
section
variable {P : Pl} {C : List Int} {n : Nat} {p : Pst} {D : List Int} {i : Int} {x : Int × Int}
theorem Inv.snoc {p' : Pst} (hI : Inv P p D) (hiW : i ∈ P.W) (hiD : i ∉ D) (hS : Sat P p'.taken p'.seats) (hf : ∀ j ∈ P.W, ∃ s, p'.seats j = some s) (hx : p'.fixed = fset p.fixed i true) : Inv P p' (D ++ [i]) where
  sat := hS
  full := hf
  fix := fun j => by
    rw [hx, List.mem_append, List.mem_singleton, ← hI.fix j]
    by_cases e : j = i
    · subst e; rw [fset_same]; simp
    · rw [fset_ne _ _ e]; simp [e]
  sub := fun j hj => by
    rcases List.mem_append.1 hj with h | h
    · exact hI.sub j h
    · rw [List.mem_singleton.1 h]; exact hiW
  nod := List.nodup_append.2 ⟨hI.nod, by simp, fun a ha b hb e => by rw [List.mem_singleton.1 hb] at e; exact hiD (e ▸ ha)⟩
theorem try_spec (hW : P.W.Nodup) (hC : ∀ i, ∀ c ∈ P.chans i, c ∈ C) (hn : (P.all C).length < n) (hI : Inv P p D) (hiW : i ∈ P.W) (hiD : i ∉ D) (hx : x ∈ P.places i) : ∀ (l pre : List Seat), P.nums x = pre ++ l → (∀ s ∈ pre, ∃ o ∈ D, p.taken s = some o) →
    ((P.try n i p l).1 = true → Inv P (P.try n i p l).2 (D ++ [i]) ∧ (∀ j ∈ D, (P.try n i p l).2.seats j = p.seats j) ∧ ∃ s, (P.try n i p l).2.seats i = some s ∧ plc s = x) ∧
    ((P.try n i p l).1 = false → (P.try n i p l).2 = p ∧ ∀ M, Mat P M → Agree p D M → plc (M i) ≠ x)
  | [], pre, hp, hpre => by
    refine ⟨fun h => (by rw [Pl.try] at h; cases h), fun _ => ⟨(by rw [Pl.try]), fun M hM hA hx' => ?_⟩⟩
    obtain ⟨M', h1, h2, h3⟩ := align hI.sat D hI.sub hI.nod M hM hA
    have hf := h1.fit i hiW
    have hpl := (h3 i).trans hx'
    have hmem : M' i ∈ P.nums x := mem_nums.2 ⟨congrArg Prod.fst hpl, congrArg Prod.snd hpl, hf.2.2.2.1, by rw [← hpl]; exact hf.2.2.2.2⟩
    rw [hp, List.append_nil] at hmem
    obtain ⟨o, ho, ht⟩ := hpre _ hmem
    have h5 := (hI.sat.cons o _).2 ht
    rw [h2 o ho] at h5
    have := h1.inj o (hI.sub o ho) i hiW (Option.some.inj h5)
    exact hiD (this ▸ ho)
  | s :: l, pre, hp, hpre => by
    have hsn : s ∈ P.nums x := by rw [hp]; simp
    have hsl := sl_of hx hsn
    have hsx : plc s = x := by have := mem_nums.1 hsn; exact Prod.ext this.1 this.2.1
    obtain ⟨si, hsi⟩ := hI.full i hiW
    have one : p.taken s = none ∨ p.taken s = some i → Inv P ((p.free i).sit s i) (D ++ [i]) ∧ (∀ j ∈ D, ((p.free i).sit s i).seats j = p.seats j) ∧ ∃ s', ((p.free i).sit s i).seats i = some s' ∧ plc s' = x := fun ht => by
      obtain ⟨h1, h2, h3⟩ := sit1 hI.sat hsi hsl hiW ht
      refine ⟨hI.snoc hiW hiD h1 (fun j hj => ?_) rfl, fun j hj => h2 j (fun e => hiD (e ▸ hj)), s, h3, hsx⟩
      by_cases e : j = i
      · subst e; exact ⟨s, h3⟩
      · rw [h2 j e]; exact hI.full j hj
    cases ht : p.taken s with
    | none =>
      have e : P.try n i p (s :: l) = (true, (p.free i).sit s i) := by rw [Pl.try, ht]
      rw [e]
      exact ⟨fun _ => one (.inl ht), fun h => (nomatch h)⟩
    | some o =>
      cases hfo : p.fixed o with
      | true =>
        have e : P.try n i p (s :: l) = P.try n i p l := by rw [Pl.try, ht]; exact if_pos hfo
        rw [e]
        refine try_spec hW hC hn hI hiW hiD hx l (pre ++ [s]) (by rw [hp]; simp) fun y hy => ?_
        rcases List.mem_append.1 hy with h | h
        · exact hpre y h
        · rw [List.mem_singleton.1 h]; exact ⟨o, (hI.fix o).1 hfo, ht⟩
      | false =>
        have hoD : o ∉ D := fun h => by rw [(hI.fix o).2 h] at hfo; cases hfo
        by_cases hoi : o = i
        · subst hoi
          have e : P.try n o p (s :: l) = (true, (p.free o).sit s o) := by rw [Pl.try, ht]; exact (if_neg (by rw [hfo]; decide)).trans (if_pos rfl)
          rw [e]
          exact ⟨fun _ => one (.inr ht), fun h => (nomatch h)⟩
        · obtain ⟨h1, h2, h3, h4⟩ := sit2 hI.sat hsi hsl hiW ht hoi
          have hoW := (hI.sat.fit o s ((hI.sat.cons o s).2 ht)).1
          have hqf : (((p.free i).free o).sit s i).fixed = fset p.fixed i true := rfl
          cases hq : (P.settle n (((p.free i).free o).sit s i).fixed o (((p.free i).free o).sit s i).taken (((p.free i).free o).sit s i).seats).1 with
          | true =>
            have e : P.try n i p (s :: l) = (true, ⟨(P.settle n (((p.free i).free o).sit s i).fixed o (((p.free i).free o).sit s i).taken (((p.free i).free o).sit s i).seats).2.taken, (P.settle n (((p.free i).free o).sit s i).fixed o (((p.free i).free o).sit s i).taken (((p.free i).free o).sit s i).seats).2.seats, (((p.free i).free o).sit s i).fixed⟩) := by
              rw [Pl.try, ht]; exact (if_neg (by rw [hfo]; decide)).trans ((if_neg hoi).trans (if_pos hq))
            rw [e]
            obtain ⟨k1, k2, k3⟩ := settle_yes hC hn h1 h4 hoW hq
            refine ⟨fun _ => ⟨hI.snoc hiW hiD k1 (fun j hj => ?_) rfl, fun j hj => ?_, s, ?_, hsx⟩, fun h => (nomatch h)⟩
            · have := k2 j (by
                by_cases e : j = o
                · exact .inl e
                · refine .inr ?_
                  by_cases e2 : j = i
                  · subst e2; rw [h3]; simp
                  · rw [h2 j e2 e]; obtain ⟨y, hy⟩ := hI.full j hj; rw [hy]; simp)
              exact Option.ne_none_iff_exists'.1 this
            · have hjo : j ≠ o := fun e => hoD (e ▸ hj)
              have hji : j ≠ i := fun e => hiD (e ▸ hj)
              refine (k3 j hjo (.inr ?_)).trans (h2 j hji hjo)
              rw [hqf, fset_ne _ _ hji]; exact (hI.fix j).2 hj
            · refine (k3 i (fun e => hoi e.symm) (.inr ?_)).trans h3
              rw [hqf, fset_same]
          | false =>
            have e : P.try n i p (s :: l) = (false, { p with fixed := fset p.fixed i false }) := by
              rw [Pl.try, ht]; exact (if_neg (by rw [hfo]; decide)).trans ((if_neg hoi).trans (if_neg (by rw [hq]; decide)))
            rw [e]
            refine ⟨fun h => (nomatch h), fun _ => ⟨?_, fun M hM hA hx' => ?_⟩⟩
            · have : fset p.fixed i false = p.fixed := by
                funext j
                by_cases e : j = i
                · subst e; rw [fset_same]
                  cases hh : p.fixed j with
                  | false => rfl
                  | true => exact absurd ((hI.fix j).1 hh) hiD
                · exact fset_ne _ _ e
              rw [this]
            · obtain ⟨M', m1, m2, m3⟩ := align hI.sat D hI.sub hI.nod M hM hA
              have hfi := m1.fit i hiW
              have hpl : plc (M' i) = plc s := ((m3 i).trans hx').trans hsx.symm
              have hsf := (mem_sl.1 hsl).1
              have m4 := m1.swap hpl hfi.2.2.2 hsf.2.2.2
              have hF := settle_no hC hn hq
              have hCo : Cons ⟨fun _ => false, (((p.free i).free o).sit s i).taken, (((p.free i).free o).sit s i).seats⟩ := h1.cons
              have hold : ∀ y b, (((p.free i).free o).sit s i).taken y = some b → b ∈ P.W := fun y b hb => (h1.fit b y ((h1.cons b y).2 hb)).1
              refine no_seat hW hCo h4 (fun _ => rfl) hF hoW hold (fun j => sw (M' i) s (M' j)) (fun j hj hr => fits_sl hCo h4 (fun _ => rfl) hF hoW hold (reach_all hCo (fun _ => rfl) hF hr) (m4.fit j hj)) m4.inj fun j hj hjf => ?_
              have hjf' : fset p.fixed i true j = true := hjf
              show (((p.free i).free o).sit s i).seats j = some (sw (M' i) s (M' j))
              by_cases e2 : j = i
              · subst e2; rw [h3]; congr 1; exact (if_pos rfl).symm
              · rw [fset_ne _ _ e2] at hjf'
                have hjD := (hI.fix j).1 hjf'
                have hjo : j ≠ o := fun e => hoD (e ▸ hjD)
                rw [h2 j e2 hjo, m2 j hjD]
                congr 1
                refine ((if_neg fun e => e2 (m1.inj j hj i hiW e)).trans (if_neg fun e => ?_)).symm
                have k := (hI.sat.cons j s).1 (by rw [m2 j hjD, e])
                rw [ht] at k
                exact hjo (Option.some.inj k).symm
/-- The seats as they are. -/
theorem Inv.mat (hI : Inv P p D) : Mat P (fun j => (p.seats j).getD (0, 0, 0)) ∧ ∀ j ∈ P.W, p.seats j = some ((p.seats j).getD (0, 0, 0)) ∧ plc ((p.seats j).getD (0, 0, 0)) ∈ P.places j := by
  refine ⟨⟨fun a ha b hb e => ?_, fun j hj => ?_⟩, fun j hj => ?_⟩
  · obtain ⟨s, hs⟩ := hI.full a ha
    obtain ⟨r, hr⟩ := hI.full b hb
    simp only [hs, hr, Option.getD_some] at e
    subst e
    have := ((hI.sat.cons a s).1 hs).symm.trans ((hI.sat.cons b s).1 hr)
    exact Option.some.inj this
  · obtain ⟨s, hs⟩ := hI.full j hj
    show P.Fits j ((p.seats j).getD (0, 0, 0))
    rw [hs]; exact (mem_sl.1 (hI.sat.fit j s hs).2).1
  · obtain ⟨s, hs⟩ := hI.full j hj
    rw [hs]
    have h := mem_sl.1 (hI.sat.fit j s hs).2
    exact ⟨rfl, mem_places.2 ⟨h.1.1, h.1.2.1, h.2, h.1.2.2.1⟩⟩
theorem pick_spec (hW : P.W.Nodup) (hC : ∀ i, ∀ c ∈ P.chans i, c ∈ C) (hn : (P.all C).length < n) (hI : Inv P p D) (hiW : i ∈ P.W) (hiD : i ∉ D) : ∀ (l pre : List (Int × Int)), P.places i = pre ++ l → (∀ y ∈ pre, ∀ M, Mat P M → Agree p D M → plc (M i) ≠ y) →
    ∃ s, (P.pick n i l p).seats i = some s ∧ Inv P (P.pick n i l p) (D ++ [i]) ∧ (∀ j ∈ D, (P.pick n i l p).seats j = p.seats j) ∧ ∃ l1 l2, P.places i = l1 ++ plc s :: l2 ∧ ∀ y ∈ l1, ∀ M, Mat P M → Agree p D M → plc (M i) ≠ y
  | [], pre, hp, hpre => by
    exfalso
    obtain ⟨h1, h2⟩ := hI.mat
    rw [List.append_nil] at hp
    exact hpre _ (by rw [← hp]; exact (h2 i hiW).2) _ h1 (fun j hj => ⟨_, (h2 j (hI.sub j hj)).1, rfl⟩) rfl
  | x :: l, pre, hp, hpre => by
    have hx : x ∈ P.places i := by rw [hp]; simp
    obtain ⟨hy, hno⟩ := try_spec hW hC hn hI hiW hiD hx (P.nums x) [] rfl (fun _ h => (nomatch h))
    rw [Pl.pick]
    cases hq : (P.try n i p (P.nums x)).1 with
    | true =>
      rw [if_pos rfl]
      obtain ⟨h1, h2, s, h3, h4⟩ := hy hq
      exact ⟨s, h3, h1, h2, pre, l, by rw [h4]; exact hp, hpre⟩
    | false =>
      rw [if_neg (by decide)]
      obtain ⟨h1, h2⟩ := hno hq
      rw [h1]
      refine pick_spec hW hC hn hI hiW hiD l (pre ++ [x]) (by rw [hp]; simp) fun y hy' => ?_
      rcases List.mem_append.1 hy' with h | h
      · exact hpre y h
      · rw [List.mem_singleton.1 h]; exact h2
def slotM (M : Int → Seat) (i : Int) : Slot := ⟨i, (M i).1, (M i).2.1⟩
/-- No slot that comes before it serves. -/
def Frst (P : Pl) (M : Int → Seat) (D : List Int) (i : Int) : Prop := ∃ l1 l2, P.places i = l1 ++ plc (M i) :: l2 ∧ ∀ y ∈ l1, ∀ M', Mat P M' → (∀ j ∈ D, plc (M' j) = plc (M j)) → plc (M' i) ≠ y
theorem fixAll_spec (hW : P.W.Nodup) (hC : ∀ i, ∀ c ∈ P.chans i, c ∈ C) (hn : (P.all C).length < n) : ∀ (l D : List Int) (p : Pst), P.W = D ++ l → Inv P p D →
    ∃ M, Mat P M ∧ (∀ j ∈ D, p.seats j = some (M j)) ∧ P.fixAll n l p = l.map (slotM M) ∧ ∀ D2 i l2, l = D2 ++ i :: l2 → Frst P M (D ++ D2) i
  | [], D, p, hD, hI => by
    obtain ⟨h1, h2⟩ := hI.mat
    exact ⟨_, h1, fun j hj => (h2 j (hI.sub j hj)).1, rfl, fun D2 i l2 e => by simp at e⟩
  | i :: l, D, p, hD, hI => by
    have hiW : i ∈ P.W := by rw [hD]; simp
    have hiD : i ∉ D := by
      rw [hD] at hW
      intro h
      exact (List.nodup_append.1 hW).2.2 i h i (by simp) rfl
    obtain ⟨s, h1, h2, h3, l1, l2, h4, h5⟩ := pick_spec hW hC hn hI hiW hiD (P.places i) [] rfl (fun _ h => (nomatch h))
    obtain ⟨M, m1, m2, m3, m4⟩ := fixAll_spec hW hC hn l (D ++ [i]) _ (by rw [hD]; simp) h2
    have hMi : M i = s := by have := m2 i (by simp); rw [h1] at this; exact (Option.some.inj this).symm
    have hMD : ∀ j ∈ D, p.seats j = some (M j) := fun j hj => by rw [← h3 j hj]; exact m2 j (by simp [hj])
    refine ⟨M, m1, hMD, ?_, fun D2 a r e => ?_⟩
    · rw [Pl.fixAll, m3, List.map_cons]
      congr 1
      unfold slotOf slotM
      rw [h1, hMi]; rfl
    · cases D2 with
      | nil =>
        simp only [List.nil_append, List.cons.injEq] at e
        obtain ⟨rfl, rfl⟩ := e
        rw [List.append_nil]
        refine ⟨l1, l2, by rw [hMi]; exact h4, fun y hy M' hM' hA => h5 y hy M' hM' fun j hj => ⟨M j, hMD j hj, hA j hj⟩⟩
      | cons d D2 =>
        simp only [List.cons_append, List.cons.injEq] at e
        obtain ⟨rfl, e⟩ := e
        have := m4 D2 a r e
        rw [List.append_assoc] at this
        exact this
end
/-- What a plan is: all are seated; each slot is the first that serves with those before. -/
theorem plan_some {P : Pl} {C : List Int} {n : Nat} (hW : P.W.Nodup) (hC : ∀ i, ∀ c ∈ P.chans i, c ∈ C) (hn : (P.all C).length < n) {L : List Slot} (h : P.plan n = some L) :
    ∃ M, Mat P M ∧ L = P.W.map (slotM M) ∧ ∀ D i l, P.W = D ++ i :: l → Frst P M D i := by
  unfold Pl.plan at h
  cases hq : P.seatAll n P.W (fun _ => none) (fun _ => none) with
  | none => rw [hq] at h; cases h
  | some r =>
    obtain ⟨tk, st⟩ := r
    rw [hq] at h
    obtain ⟨h1, h2⟩ := seatAll_some hC hn P.W _ _ _ hW (fun i hi => hi) (fun _ _ => rfl) (Sat.none P) hq
    obtain ⟨M, m1, m2, m3, m4⟩ := fixAll_spec hW hC hn P.W [] ⟨tk, st, fun _ => false⟩ rfl ⟨h1, fun j hj => Option.ne_none_iff_exists'.1 (h2 j (.inl hj)), fun j => by simp, fun _ h => (nomatch h), by simp⟩
    exact ⟨M, m1, (Option.some.inj h).symm.trans m3, m4⟩
theorem plan_none {P : Pl} {C : List Int} {n : Nat} (hCn : C.Nodup) (hW : P.W.Nodup) (hC : ∀ i, ∀ c ∈ P.chans i, c ∈ C) (hn : (P.all C).length < n) (h : P.plan n = none) : Few P := by
  unfold Pl.plan at h
  cases hq : P.seatAll n P.W (fun _ => none) (fun _ => none) with
  | none => exact seatAll_none hCn hC hn P.W _ _ hW (fun i hi => hi) (fun _ _ => rfl) (Sat.none P) hq
  | some r => rw [hq] at h; cases h
end Bx
/- part A7 -/
namespace Bx
def Slot.pl (s : Slot) : Int × Int := (s.channel, s.sent)
def usedN (l : List Slot) (x : Int × Int) : Nat := (l.filter fun s => decide (s.channel = x.1 ∧ s.sent = x.2)).length
theorem usedN_snoc (l : List Slot) (s : Slot) (x : Int × Int) : usedN (l ++ [s]) x = usedN l x + if s.pl = x then 1 else 0 := by
  unfold usedN
  rw [List.filter_append, List.length_append]
  congr 1
  have : (s.pl = x) ↔ (s.channel = x.1 ∧ s.sent = x.2) := by unfold Slot.pl; exact ⟨fun h => by rw [← h]; exact ⟨rfl, rfl⟩, fun h => Prod.ext h.1 h.2⟩
  by_cases h : s.pl = x
  · rw [if_pos h, List.filter_cons_of_pos (by simpa using this.1 h)]; rfl
  · rw [if_neg h, List.filter_cons_of_neg (by simpa using fun a b => h (this.2 ⟨a, b⟩))]; rfl
/-- One tick more than the program looks at. -/
def Pl.placesR (P : Pl) (i : Int) : List (Int × Int) := (List.range (P.W.length + 1)).flatMap fun (d : Nat) => P.at i (P.now + (d : Int)) (P.chans i)
theorem placesR_eq (P : Pl) (i : Int) : P.placesR i = P.places i ++ P.at i (P.now + (P.W.length : Int)) (P.chans i) := by
  unfold Pl.placesR Pl.places
  rw [List.range_succ, List.flatMap_append]
  simp
theorem mem_placesR {P : Pl} {i : Int} {x : Int × Int} (h : x ∈ P.placesR i) : x.1 ∈ P.chans i ∧ P.now ≤ x.2 ∧ x.2 ≤ P.latest i x.1 := by
  simp only [Pl.placesR, List.mem_flatMap, List.mem_range, mem_at] at h
  obtain ⟨d, h1, h2, h3, h4⟩ := h
  exact ⟨h2, by omega, by omega⟩
def Pl.ref (P : Pl) : List Int → List Slot → Option (List Slot)
  | [], l => some l
  | i :: r, l => (P.placesR i).findSome? fun x => if (usedN l x : Int) < P.room x.1 then P.ref r (l ++ [⟨i, x.1, x.2⟩]) else none
/-- Slots that can be, each behind those before it. -/
def OkL (P : Pl) (pre : List Slot) : List Slot → Prop
  | [] => True
  | s :: l => (s.channel ∈ P.chans s.town ∧ P.now ≤ s.sent ∧ s.sent ≤ P.latest s.town s.channel ∧ (usedN pre s.pl : Int) < P.room s.channel) ∧ OkL P (pre ++ [s]) l
def mkM : List Slot → List Slot → Int → Seat
  | [], _ => fun _ => (0, 0, 0)
  | s :: l, pre => fset (mkM l (pre ++ [s])) s.town (s.channel, s.sent, (usedN pre s.pl : Int))
theorem mkM_spec {P : Pl} : ∀ (l pre : List Slot), OkL P pre l → (l.map (·.town)).Nodup → ∀ s ∈ l, plc (mkM l pre s.town) = s.pl ∧ P.Fits s.town (mkM l pre s.town) ∧ (usedN pre s.pl : Int) ≤ (mkM l pre s.town).2.2
  | [], _, _, _, _, h => (nomatch h)
  | s :: l, pre, ⟨⟨h1, h2, h3, h4⟩, hr⟩, hn, x, hx => by
    rw [List.map_cons, List.nodup_cons] at hn
    by_cases e : x.town = s.town
    · have : x = s := by
        rcases List.mem_cons.1 hx with h | h
        · exact h
        · exact absurd (List.mem_map.2 ⟨x, h, e⟩) hn.1
      subst this
      rw [mkM, fset_same]
      exact ⟨rfl, ⟨h1, h2, h3, by simp, h4⟩, by simp⟩
    · have hxl : x ∈ l := by
        rcases List.mem_cons.1 hx with h | h
        · exact absurd (congrArg _ h) e
        · exact h
      obtain ⟨k1, k2, k3⟩ := mkM_spec l (pre ++ [s]) hr hn.2 x hxl
      rw [mkM, fset_ne _ _ e]
      refine ⟨k1, k2, ?_⟩
      rw [usedN_snoc] at k3
      omega
theorem mkM_inj {P : Pl} : ∀ (l pre : List Slot), OkL P pre l → (l.map (·.town)).Nodup → ∀ a ∈ l, ∀ b ∈ l, mkM l pre a.town = mkM l pre b.town → a.town = b.town
  | [], _, _, _, _, h, _, _, _ => (nomatch h)
  | s :: l, pre, ho, hn, a, ha, b, hb, e => by
    have hr := ho.2
    have hn' := hn
    rw [List.map_cons, List.nodup_cons] at hn
    have key : ∀ x ∈ l, x.town ≠ s.town → mkM (s :: l) pre x.town ≠ mkM (s :: l) pre s.town := by
      intro x hx hxs he
      obtain ⟨k1, k2, k3⟩ := mkM_spec l (pre ++ [s]) hr hn.2 x hx
      rw [mkM, fset_ne _ _ hxs, fset_same] at he
      rw [he] at k1 k3
      have k1' : s.pl = x.pl := k1
      rw [usedN_snoc, if_pos k1', ← k1'] at k3
      simp only at k3
      omega
    by_cases ea : a.town = s.town
    · by_cases eb : b.town = s.town
      · rw [ea, eb]
      · have hbl : b ∈ l := (List.mem_cons.1 hb).resolve_left fun h => eb (congrArg _ h)
        rw [ea] at e
        exact absurd e.symm (key b hbl eb)
    · have hal : a ∈ l := (List.mem_cons.1 ha).resolve_left fun h => ea (congrArg _ h)
      by_cases eb : b.town = s.town
      · rw [eb] at e
        exact absurd e (key a hal ea)
      · have hbl : b ∈ l := (List.mem_cons.1 hb).resolve_left fun h => eb (congrArg _ h)
        rw [mkM, fset_ne _ _ ea, fset_ne _ _ eb] at e
        exact mkM_inj l (pre ++ [s]) hr hn.2 a hal b hbl e
theorem OkL.app {P : Pl} : ∀ (a pre b : List Slot), OkL P pre (a ++ b) ↔ OkL P pre a ∧ OkL P (pre ++ a) b
  | [], pre, b => by simp [OkL]
  | s :: a, pre, b => by
    simp only [List.cons_append, OkL, OkL.app a (pre ++ [s]) b, List.append_assoc, List.nil_append, and_assoc]
/-- What the reference finds can be. -/
theorem ref_ok {P : Pl} : ∀ (r : List Int) (l L : List Slot), OkL P [] l → P.ref r l = some L → OkL P [] L ∧ ∃ t, L = l ++ t ∧ t.map (·.town) = r
  | [], l, L, ho, h => by
    rw [Pl.ref] at h; cases h
    exact ⟨ho, [], by simp, rfl⟩
  | i :: r, l, L, ho, h => by
    rw [Pl.ref] at h
    obtain ⟨x, hx, hf⟩ := List.exists_of_findSome?_eq_some h
    split at hf
    next hu =>
      have hm := mem_placesR hx
      have ho2 : OkL P [] (l ++ [⟨i, x.1, x.2⟩]) := (OkL.app _ _ _).2 ⟨ho, ⟨⟨hm.1, hm.2.1, hm.2.2, by rw [List.nil_append]; exact hu⟩, trivial⟩⟩
      obtain ⟨h1, t, h2, h3⟩ := ref_ok r _ L ho2 hf
      exact ⟨h1, ⟨i, x.1, x.2⟩ :: t, by rw [h2]; simp, by simp [h3]⟩
    next => cases hf
theorem mat_of {P : Pl} (hW : P.W.Nodup) {L : List Slot} (ho : OkL P [] L) (hL : L.map (·.town) = P.W) : ∃ M, Mat P M ∧ ∀ s ∈ L, plc (M s.town) = s.pl := by
  have hn : (L.map (·.town)).Nodup := by rw [hL]; exact hW
  have hex : ∀ j ∈ P.W, ∃ s ∈ L, s.town = j := fun j hj => by rw [← hL] at hj; simpa using hj
  refine ⟨mkM L [], ⟨fun a ha b hb e => ?_, fun j hj => ?_⟩, fun s hs => (mkM_spec L [] ho hn s hs).1⟩
  · obtain ⟨s, hs, rfl⟩ := hex a ha
    obtain ⟨r, hr, rfl⟩ := hex b hb
    exact mkM_inj L [] ho hn s hs r hr e
  · obtain ⟨s, hs, rfl⟩ := hex j hj
    exact (mkM_spec L [] ho hn s hs).2.1
theorem usedN_map (M : Int → Seat) (x : Int × Int) : ∀ D : List Int, usedN (D.map (slotM M)) x = (D.filter fun j => decide (plc (M j) = x)).length
  | [] => rfl
  | d :: D => by
    have ih := usedN_map M x D
    unfold usedN at ih ⊢
    rw [List.map_cons]
    have : ((slotM M d).channel = x.1 ∧ (slotM M d).sent = x.2) ↔ plc (M d) = x := ⟨fun h => Prod.ext h.1 h.2, fun h => by rw [← h]; exact ⟨rfl, rfl⟩⟩
    by_cases h : plc (M d) = x
    · rw [List.filter_cons_of_pos (by simpa using this.2 h), List.filter_cons_of_pos (by simpa using h)]; simp only [List.length_cons, ih]
    · rw [List.filter_cons_of_neg (by simpa using fun a b => h (this.1 ⟨a, b⟩)), List.filter_cons_of_neg (by simpa using h)]; exact ih
/-- Who is seated leaves room. -/
theorem used_room {P : Pl} {M : Int → Seat} (hM : Mat P M) {D : List Int} {i : Int} (hn : (D ++ [i]).Nodup) (hD : ∀ j ∈ D ++ [i], j ∈ P.W) : (usedN (D.map (slotM M)) (plc (M i)) : Int) < P.room (M i).1 := by
  rw [usedN_map]
  have hp := pig ((D ++ [i]).filter fun j => decide (plc (M j) = plc (M i))) M (P.nums (plc (M i))) (hn.filter _)
    (fun j hj => by
      obtain ⟨h1, h2⟩ := List.mem_filter.1 hj
      have h3 : plc (M j) = plc (M i) := by simpa using h2
      have hf := hM.fit j (hD j h1)
      have e1 := congrArg Prod.fst h3
      exact mem_nums.2 ⟨e1, congrArg Prod.snd h3, hf.2.2.2.1, by rw [← h3]; exact hf.2.2.2.2⟩)
    (fun a ha b hb e => hM.inj a (hD a (List.mem_filter.1 ha).1) b (hD b (List.mem_filter.1 hb).1) e)
  rw [List.filter_append, List.length_append, List.filter_cons_of_pos (by simp)] at hp
  have hf := (hM.fit i (hD i (by simp))).2.2.2
  simp only [Pl.nums, List.length_map, List.length_range, List.length_cons, List.filter_nil, List.length_nil] at hp
  omega
theorem findSome_split {α β : Type} {f : α → Option β} : ∀ (l1 : List α) (x : α) (l2 : List α) (b : β), (∀ y ∈ l1, f y = none) → f x = some b → (l1 ++ x :: l2).findSome? f = some b
  | [], x, l2, b, _, h => by simp [h]
  | y :: l1, x, l2, b, h1, h => by
    rw [List.cons_append, List.findSome?_cons, h1 y (List.mem_cons_self ..)]
    exact findSome_split l1 x l2 b (fun z hz => h1 z (List.mem_cons_of_mem _ hz)) h
theorem ref_first {P : Pl} (hW : P.W.Nodup) {M : Int → Seat} (hM : Mat P M) (hF : ∀ D i l, P.W = D ++ i :: l → Frst P M D i) : ∀ (r D : List Int), P.W = D ++ r → OkL P [] (D.map (slotM M)) → P.ref r (D.map (slotM M)) = some (P.W.map (slotM M))
  | [], D, hD, _ => by rw [Pl.ref, hD, List.append_nil]
  | i :: r, D, hD, ho => by
    have hiW : i ∈ P.W := by rw [hD]; simp
    have hn : (D ++ [i]).Nodup := by
      rw [hD, ← List.singleton_append, ← List.append_assoc] at hW
      exact (List.nodup_append.1 hW).1
    have hsub : ∀ j ∈ D ++ [i], j ∈ P.W := fun j hj => by
      rw [hD]
      rcases List.mem_append.1 hj with h | h
      · simp [h]
      · simp [List.mem_singleton.1 h]
    have hu := used_room hM hn hsub
    have hf := hM.fit i hiW
    have ho2 : OkL P [] ((D ++ [i]).map (slotM M)) := by
      rw [List.map_append]
      exact (OkL.app _ _ _).2 ⟨ho, ⟨⟨hf.1, hf.2.1, hf.2.2.1, by rw [List.nil_append]; exact hu⟩, trivial⟩⟩
    have ih := ref_first hW hM hF r (D ++ [i]) (by rw [hD]; simp) ho2
    obtain ⟨l1, l2, h1, h2⟩ := hF D i r hD
    rw [Pl.ref, placesR_eq, h1, List.append_assoc, List.cons_append]
    refine findSome_split l1 _ _ _ (fun y hy => ?_) ?_
    · split
      next hy2 =>
        cases hq : P.ref r (D.map (slotM M) ++ [⟨i, y.1, y.2⟩]) with
        | none => rfl
        | some L =>
          exfalso
          have hyp : y ∈ P.placesR i := by rw [placesR_eq, h1]; simp [hy]
          have hm := mem_placesR hyp
          have ho3 : OkL P [] (D.map (slotM M) ++ [⟨i, y.1, y.2⟩]) := (OkL.app _ _ _).2 ⟨ho, ⟨⟨hm.1, hm.2.1, hm.2.2, by rw [List.nil_append]; exact hy2⟩, trivial⟩⟩
          obtain ⟨k1, t, k2, k3⟩ := ref_ok r _ L ho3 hq
          have hL : L.map (·.town) = P.W := by
            rw [k2, List.map_append, List.map_append, k3, List.map_map, hD]
            have : D.map ((·.town) ∘ slotM M) = D := by
              have : ((·.town) ∘ slotM M) = id := rfl
              rw [this, List.map_id]
            rw [this]; simp
          obtain ⟨M', m1, m2⟩ := mat_of hW k1 hL
          refine h2 y hy M' m1 (fun j hj => ?_) ?_
          · have := m2 (slotM M j) (by rw [k2]; simp; exact .inl ⟨j, hj, rfl⟩)
            exact this
          · exact m2 ⟨i, y.1, y.2⟩ (by rw [k2]; simp)
      next => rfl
    · rw [if_pos hu]
      have : D.map (slotM M) ++ [⟨i, (plc (M i)).1, (plc (M i)).2⟩] = (D ++ [i]).map (slotM M) := by rw [List.map_append]; rfl
      rw [this]; exact ih
/-- The plan is what the reference finds. -/
theorem plan_ref {P : Pl} {C : List Int} {n : Nat} (hCn : C.Nodup) (hW : P.W.Nodup) (hC : ∀ i, ∀ c ∈ P.chans i, c ∈ C) (hn : (P.all C).length < n) : P.plan n = P.ref P.W [] := by
  cases hp : P.plan n with
  | some L =>
    obtain ⟨M, h1, h2, h3⟩ := plan_some hW hC hn hp
    rw [h2]
    exact (ref_first hW h1 h3 P.W [] rfl trivial).symm
  | none =>
    cases hq : P.ref P.W [] with
    | none => rfl
    | some L =>
      obtain ⟨k1, t, k2, k3⟩ := ref_ok P.W [] L trivial hq
      rw [List.nil_append] at k2
      subst k2
      obtain ⟨M, m1, -⟩ := mat_of hW k1 k3
      exact ((plan_none hCn hW hC hn hp).no hW m1).elim
end Bx
/- part A8 -/
namespace Bx
def Pl.cnt (P : Pl) (c : Int) (A : List Int) : Int := A.foldl (fun m i => if c ∈ P.chans i then max m (P.latest i c - P.now + 1) else m) 0
def Pl.slots (P : Pl) (C A : List Int) : Int := (C.map fun c => P.cnt c A * P.room c).sum
theorem cnt_go (P : Pl) (c : Int) : ∀ (A : List Int) (m : Int), m ≤ A.foldl (fun m i => if c ∈ P.chans i then max m (P.latest i c - P.now + 1) else m) m ∧
    (∀ i ∈ A, c ∈ P.chans i → P.latest i c - P.now + 1 ≤ A.foldl (fun m i => if c ∈ P.chans i then max m (P.latest i c - P.now + 1) else m) m) ∧
    (A.foldl (fun m i => if c ∈ P.chans i then max m (P.latest i c - P.now + 1) else m) m = m ∨ ∃ i ∈ A, c ∈ P.chans i ∧ A.foldl (fun m i => if c ∈ P.chans i then max m (P.latest i c - P.now + 1) else m) m = P.latest i c - P.now + 1)
  | [], m => ⟨Int.le_refl _, fun _ h => (nomatch h), .inl rfl⟩
  | a :: A, m => by
    rw [List.foldl_cons]
    by_cases h : c ∈ P.chans a
    · rw [if_pos h]
      obtain ⟨h1, h2, h3⟩ := cnt_go P c A (max m (P.latest a c - P.now + 1))
      generalize A.foldl (fun m i => if c ∈ P.chans i then max m (P.latest i c - P.now + 1) else m) (max m (P.latest a c - P.now + 1)) = r at *
      refine ⟨by omega, fun i hi hc => ?_, ?_⟩
      · rcases List.mem_cons.1 hi with rfl | hi
        · omega
        · exact h2 i hi hc
      · rcases h3 with h3 | ⟨i, hi, k1, k2⟩
        · rcases Int.le_total (P.latest a c - P.now + 1) m with k | k
          · exact .inl (by omega)
          · exact .inr ⟨a, List.mem_cons_self .., h, by omega⟩
        · exact .inr ⟨i, List.mem_cons_of_mem _ hi, k1, k2⟩
    · rw [if_neg h]
      obtain ⟨h1, h2, h3⟩ := cnt_go P c A m
      refine ⟨h1, fun i hi hc => ?_, h3.imp id fun ⟨i, hi, k⟩ => ⟨i, List.mem_cons_of_mem _ hi, k⟩⟩
      rcases List.mem_cons.1 hi with rfl | hi
      · exact absurd hc h
      · exact h2 i hi hc
theorem cnt_nonneg (P : Pl) (c : Int) (A : List Int) : 0 ≤ P.cnt c A := (cnt_go P c A 0).1
theorem cnt_le (P : Pl) {c i : Int} {A : List Int} (hi : i ∈ A) (hc : c ∈ P.chans i) : P.latest i c - P.now + 1 ≤ P.cnt c A := (cnt_go P c A 0).2.1 i hi hc
theorem cnt_hit (P : Pl) {c : Int} {A : List Int} (h : 0 < P.cnt c A) : ∃ i ∈ A, c ∈ P.chans i ∧ P.cnt c A = P.latest i c - P.now + 1 := by
  rcases (cnt_go P c A 0).2.2 with k | k
  · unfold Pl.cnt at h; rw [k] at h; exact absurd h (by decide)
  · exact k
theorem cnt_mono (P : Pl) {c : Int} {A B : List Int} (h : ∀ i ∈ A, i ∈ B) : P.cnt c A ≤ P.cnt c B := by
  rcases Int.lt_or_le 0 (P.cnt c A) with k | k
  · obtain ⟨i, h1, h2, h3⟩ := cnt_hit P k
    rw [h3]; exact cnt_le P (h i h1) h2
  · have := cnt_nonneg P c B; omega
def Pl.slotL (P : Pl) (C A : List Int) : List Seat := C.flatMap fun c => (List.range (P.cnt c A).toNat).flatMap fun (d : Nat) => P.nums (c, P.now + (d : Int))
theorem flatMap_len {α β : Type} (f : α → List β) (g : α → Int) : ∀ l : List α, (∀ x ∈ l, ((f x).length : Int) = g x) → ((l.flatMap f).length : Int) = (l.map g).sum
  | [], _ => rfl
  | x :: l, h => by
    have := flatMap_len f g l fun y hy => h y (List.mem_cons_of_mem _ hy)
    have := h x (List.mem_cons_self ..)
    simp only [List.flatMap_cons, List.length_append, List.map_cons, List.sum_cons]
    omega
theorem sum_const {α : Type} (k : Int) : ∀ l : List α, (l.map fun _ => k).sum = l.length * k
  | [] => by simp
  | x :: l => by rw [List.map_cons, List.sum_cons, sum_const k l, List.length_cons, Int.natCast_succ, Int.add_mul]; omega
theorem slotL_len {P : Pl} {C A : List Int} (hr : ∀ c, 0 ≤ P.room c) : ((P.slotL C A).length : Int) = P.slots C A := by
  refine flatMap_len _ _ C fun c _ => ?_
  rw [flatMap_len _ (fun _ => P.room c) _ (fun d _ => by simp only [Pl.nums, List.length_map, List.length_range]; have := hr c; omega), sum_const, List.length_range]
  have := cnt_nonneg P c A
  rw [Int.toNat_of_nonneg this]
theorem slotL_nodup {P : Pl} {C A : List Int} (hC : C.Nodup) : (P.slotL C A).Nodup := by
  refine List.pairwise_flatMap.2 ⟨fun c _ => List.pairwise_flatMap.2 ⟨fun d _ => ?_, ?_⟩, ?_⟩
  · refine List.Pairwise.map _ (R := (· ≠ ·)) (fun a b hab e => hab ?_) List.nodup_range
    simp only [Prod.mk.injEq] at e
    omega
  · refine List.Pairwise.imp ?_ (List.nodup_range (n := (P.cnt c A).toNat))
    intro a b hab x hx y hy e
    subst e
    have h1 := (mem_nums.1 hx).2.1
    have h2 := (mem_nums.1 hy).2.1
    simp only at h1 h2
    omega
  · refine List.Pairwise.imp ?_ hC
    intro a b hab x hx y hy e
    subst e
    simp only [List.mem_flatMap, mem_nums] at hx hy
    obtain ⟨_, _, h1, _⟩ := hx
    obtain ⟨_, _, h2, _⟩ := hy
    exact hab (h1.symm.trans h2)
theorem mem_slotL {P : Pl} {C A : List Int} (hC : ∀ i, ∀ c ∈ P.chans i, c ∈ C) {s : Seat} : s ∈ P.slotL C A ↔ ∃ a ∈ A, P.Fits a s := by
  simp only [Pl.slotL, List.mem_flatMap, List.mem_range, mem_nums]
  constructor
  · rintro ⟨c, hc, d, hd, h1, h2, h3, h4⟩
    obtain ⟨i, hi, k1, k2⟩ := cnt_hit P (c := c) (A := A) (by omega)
    subst h1
    exact ⟨i, hi, k1, by omega, by omega, h3, h4⟩
  · rintro ⟨a, ha, h1, h2, h3, h4, h5⟩
    have := cnt_le P ha h1
    exact ⟨s.1, hC a _ h1, (s.2.1 - P.now).toNat, by omega, rfl, by simp; omega, h4, h5⟩
/-- Towns that have fewer slots than they are. -/
def Pl.blk (P : Pl) (C A : List Int) : Prop := P.slots C A < A.length
theorem few_iff {P : Pl} {C : List Int} (hCn : C.Nodup) (hC : ∀ i, ∀ c ∈ P.chans i, c ∈ C) (hr : ∀ c, 0 ≤ P.room c) : Few P ↔ ∃ p : Int → Bool, P.blk C (P.W.filter p) := by
  constructor
  · rintro ⟨p, T, h1, h2⟩
    refine ⟨p, ?_⟩
    have hp := pig (P.slotL C (P.W.filter p)) id T (slotL_nodup hCn) (fun s hs => by obtain ⟨a, ha, hf⟩ := (mem_slotL hC).1 hs; exact h1 a ha s hf) (fun _ _ _ _ e => e)
    have := slotL_len (P := P) (C := C) (A := P.W.filter p) hr
    unfold Pl.blk
    omega
  · rintro ⟨p, h⟩
    refine ⟨p, P.slotL C (P.W.filter p), fun a ha s hs => (mem_slotL hC).2 ⟨a, ha, hs⟩, ?_⟩
    have := slotL_len (P := P) (C := C) (A := P.W.filter p) hr
    unfold Pl.blk at h
    omega
/-- Any towns that are blocked: there is no plan. -/
theorem blk_none {P : Pl} {C A : List Int} {n : Nat} (hCn : C.Nodup) (hW : P.W.Nodup) (hC : ∀ i, ∀ c ∈ P.chans i, c ∈ C) (hr : ∀ c, 0 ≤ P.room c) (hn : (P.all C).length < n) (hA : A.Nodup) (hAW : ∀ a ∈ A, a ∈ P.W) (h : P.blk C A) : P.plan n = none := by
  cases hp : P.plan n with
  | none => rfl
  | some L =>
    exfalso
    obtain ⟨M, h1, -⟩ := plan_some hW hC hn hp
    have hp := pig A M (P.slotL C A) hA (fun a ha => (mem_slotL hC).2 ⟨a, ha, h1.fit a (hAW a ha)⟩) (fun a ha b hb e => h1.inj a (hAW a ha) b (hAW b hb) e)
    have := slotL_len (P := P) (C := C) (A := A) hr
    unfold Pl.blk at h
    omega
theorem none_blk {P : Pl} {C : List Int} {n : Nat} (hCn : C.Nodup) (hW : P.W.Nodup) (hC : ∀ i, ∀ c ∈ P.chans i, c ∈ C) (hr : ∀ c, 0 ≤ P.room c) (hn : (P.all C).length < n) (h : P.plan n = none) : ∃ p : Int → Bool, P.blk C (P.W.filter p) := (few_iff hCn hC hr).1 (plan_none hCn hW hC hn h)
/-! ### the first of the smallest blocked sets -/
def lexB : List Int → List Int → Bool
  | a :: l, b :: m => decide (a < b) || (decide (a = b) && lexB l m)
  | _, _ => false
/-- Before it: fewer, or as many and before it in the order of the indices. -/
def befB (a b : List Int) : Bool := decide (a.length < b.length) || (decide (a.length = b.length) && lexB a b)
theorem lexB_irr : ∀ a : List Int, lexB a a = false
  | [] => rfl
  | x :: a => by simp [lexB, lexB_irr a]
theorem lexB_trans : ∀ {a b c : List Int}, lexB a b = true → lexB b c = true → lexB a c = true
  | [], _, _, h, _ => by simp [lexB] at h
  | _ :: _, [], _, h, _ => by simp [lexB] at h
  | _ :: _, _ :: _, [], _, h => by simp [lexB] at h
  | x :: a, y :: b, z :: c, h, k => by
    simp only [lexB, Bool.or_eq_true, Bool.and_eq_true, decide_eq_true_eq] at h k ⊢
    rcases h with h | ⟨rfl, h⟩
    · rcases k with k | ⟨rfl, k⟩
      · left; omega
      · left; exact h
    · rcases k with k | ⟨rfl, k⟩
      · left; exact k
      · right; exact ⟨rfl, lexB_trans h k⟩
theorem lexB_tot : ∀ {a b : List Int}, a.length = b.length → lexB a b = false → lexB b a = false → a = b
  | [], [], _, _, _ => rfl
  | [], _ :: _, h, _, _ => by simp at h
  | _ :: _, [], h, _, _ => by simp at h
  | x :: a, y :: b, h, k1, k2 => by
    simp only [lexB, Bool.or_eq_false_iff, Bool.and_eq_false_iff, decide_eq_false_iff_not] at k1 k2
    obtain rfl : x = y := by omega
    rw [lexB_tot (by simpa using h) (k1.2.resolve_left (fun h => h rfl)) (k2.2.resolve_left (fun h => h rfl))]
theorem befB_trans {a b c : List Int} (h : befB a b = true) (k : befB b c = true) : befB a c = true := by
  simp only [befB, Bool.or_eq_true, Bool.and_eq_true, decide_eq_true_eq] at h k ⊢
  rcases h with h | ⟨h1, h2⟩
  · rcases k with k | ⟨k1, k2⟩
    · left; omega
    · left; omega
  · rcases k with k | ⟨k1, k2⟩
    · left; omega
    · right; exact ⟨by omega, lexB_trans h2 k2⟩
theorem befB_tot {a b : List Int} (h : befB a b = false) (k : befB b a = false) : a = b := by
  simp only [befB, Bool.or_eq_false_iff, Bool.and_eq_false_iff, decide_eq_false_iff_not] at h k
  have hl : a.length = b.length := by omega
  exact lexB_tot hl (h.2.resolve_left fun n => n hl) (k.2.resolve_left fun n => n hl.symm)
theorem befB_irr (a : List Int) : befB a a = false := by simp [befB, lexB_irr]
theorem befB_asym {a b : List Int} (h : befB a b = true) : befB b a = false := by
  cases k : befB b a with
  | false => rfl
  | true => have := befB_trans h k; rw [befB_irr] at this; cases this
/-- The first one of those of which p holds. -/
def bestStep (p : List Int → Bool) (f : Option (List Int)) (s : List Int) : Option (List Int) :=
  if (match f with | none => true | some g => befB s g) = true ∧ p s = true then some s else f
def bestL (p : List Int → Bool) (l : List (List Int)) : Option (List Int) := l.foldl (bestStep p) none
def Best (p : List Int → Bool) (l : List (List Int)) : Option (List Int) → Prop
  | none => ∀ s ∈ l, p s = false
  | some g => g ∈ l ∧ p g = true ∧ ∀ s ∈ l, p s = true → befB s g = false
theorem bestL_snoc (p : List Int → Bool) (l : List (List Int)) (s : List Int) : bestL p (l ++ [s]) = bestStep p (bestL p l) s := by unfold bestL; rw [List.foldl_append]; rfl
theorem best_step {p : List Int → Bool} {l : List (List Int)} {f : Option (List Int)} (h : Best p l f) (s : List Int) : Best p (l ++ [s]) (bestStep p f s) := by
  unfold bestStep
  cases f with
  | none =>
    by_cases hp : p s = true
    · rw [if_pos ⟨rfl, hp⟩]
      refine ⟨by simp, hp, fun x hx hpx => ?_⟩
      rcases List.mem_append.1 hx with k | k
      · rw [h x k] at hpx; cases hpx
      · rw [List.mem_singleton.1 k]; exact befB_irr s
    · rw [if_neg (fun k => hp k.2)]
      intro x hx
      rcases List.mem_append.1 hx with k | k
      · exact h x k
      · rw [List.mem_singleton.1 k]; simpa using hp
  | some g =>
    obtain ⟨h1, h2, h3⟩ := h
    by_cases hq : befB s g = true ∧ p s = true
    · rw [if_pos hq]
      refine ⟨by simp, hq.2, fun x hx hpx => ?_⟩
      rcases List.mem_append.1 hx with k | k
      · cases hb : befB x s with
        | false => rfl
        | true => have := befB_trans hb hq.1; rw [h3 x k hpx] at this; cases this
      · rw [List.mem_singleton.1 k]; exact befB_irr s
    · rw [if_neg hq]
      refine ⟨by simp [h1], h2, fun x hx hpx => ?_⟩
      rcases List.mem_append.1 hx with k | k
      · exact h3 x k hpx
      · rw [List.mem_singleton.1 k] at hpx ⊢
        cases hb : befB s g with
        | false => rfl
        | true => exact absurd ⟨hb, hpx⟩ hq
theorem bestL_best (p : List Int → Bool) (l : List (List Int)) : Best p l (bestL p l) := by
  suffices h : ∀ (l2 l1 : List (List Int)) f, Best p l1 f → Best p (l1 ++ l2) (l2.foldl (bestStep p) f) from by simpa [bestL] using h l [] none (fun _ h => (nomatch h))
  intro l2
  induction l2 with
  | nil => intro l1 f h; simpa using h
  | cons s l2 ih =>
    intro l1 f h
    have := ih (l1 ++ [s]) _ (best_step h s)
    simpa using this
theorem Best.uniq {p : List Int → Bool} {l m : List (List Int)} (hlm : ∀ s, s ∈ l ↔ s ∈ m) : ∀ {a b : Option (List Int)}, Best p l a → Best p m b → a = b
  | none, none, _, _ => rfl
  | none, some b, h, k => by have := h b ((hlm b).2 k.1); rw [k.2.1] at this; cases this
  | some a, none, h, k => by have := k a ((hlm a).1 h.1); rw [h.2.1] at this; cases this
  | some a, some b, h, k => by rw [befB_tot (k.2.2 a ((hlm a).1 h.1) h.2.1) (h.2.2 b ((hlm b).2 k.1) k.2.1)]
end Bx
/- part A9 -/
namespace Bx
def subsB : List Int → Nat → List Int
  | [], _ => []
  | a :: l, b => if b % 2 = 1 then a :: subsB l (b / 2) else subsB l (b / 2)
def bitSets (l : List Int) : List (List Int) := (List.range (2 ^ l.length - 1)).map fun b => subsB l (b + 1)
theorem subsB_sub : ∀ (l : List Int) (b : Nat), (subsB l b).Sublist l
  | [], _ => List.Sublist.refl _
  | a :: l, b => by
    rw [subsB]; split
    · exact (subsB_sub l _).cons_cons a
    · exact (subsB_sub l _).cons a
theorem subsB_nil : ∀ {l : List Int} {b : Nat}, b < 2 ^ l.length → subsB l b = [] → b = 0
  | [], b, h, _ => by simp at h; exact h
  | a :: l, b, h, he => by
    rw [subsB] at he
    split at he
    · cases he
    · have h2 : b / 2 < 2 ^ l.length := by rw [List.length_cons, Nat.pow_succ] at h; omega
      have := subsB_nil h2 he
      omega
theorem subsB_all : ∀ {s l : List Int}, s.Sublist l → ∃ b, b < 2 ^ l.length ∧ subsB l b = s
  | _, _, .slnil => ⟨0, by simp, rfl⟩
  | _, _, .cons (l₂ := l) a h => by
    obtain ⟨b, h1, h2⟩ := subsB_all h
    refine ⟨2 * b, by rw [List.length_cons, Nat.pow_succ]; omega, ?_⟩
    rw [subsB, if_neg (by omega), show 2 * b / 2 = b by omega, h2]
  | _, _, .cons_cons (l₂ := l) a h => by
    obtain ⟨b, h1, h2⟩ := subsB_all h
    refine ⟨2 * b + 1, by rw [List.length_cons, Nat.pow_succ]; omega, ?_⟩
    rw [subsB, if_pos (by omega), show (2 * b + 1) / 2 = b by omega, h2]
theorem mem_bitSets {l s : List Int} : s ∈ bitSets l ↔ s.Sublist l ∧ s ≠ [] := by
  simp only [bitSets, List.mem_map, List.mem_range]
  constructor
  · rintro ⟨b, h, rfl⟩
    exact ⟨subsB_sub _ _, fun e => by have := subsB_nil (by omega) e; omega⟩
  · rintro ⟨h, hn⟩
    obtain ⟨b, h1, h2⟩ := subsB_all h
    have : b ≠ 0 := by
      rintro rfl
      apply hn
      rw [← h2]
      clear h h1 h2 hn
      induction l with
      | nil => rfl
      | cons a l ih => rw [subsB, if_neg (by decide)]; exact ih
    exact ⟨b - 1, by omega, by rw [show b - 1 + 1 = b by omega]; exact h2⟩
def setsR : List Int → Nat → List (List Int)
  | _, 0 => [[]]
  | [], _ + 1 => []
  | a :: l, n + 1 => (setsR l n).map (a :: ·) ++ setsR l (n + 1)
theorem mem_setsR : ∀ {l s : List Int} {n : Nat}, s ∈ setsR l n ↔ s.Sublist l ∧ s.length = n
  | l, s, 0 => by
    cases l <;> simp only [setsR, List.mem_singleton] <;> constructor
    · rintro rfl; simp
    · rintro ⟨_, h⟩; exact List.length_eq_zero_iff.1 h
    · rintro rfl; simp
    · rintro ⟨_, h⟩; exact List.length_eq_zero_iff.1 h
  | [], s, n + 1 => by
    simp only [setsR, List.not_mem_nil, false_iff, not_and]
    intro h e
    rw [List.sublist_nil.1 h] at e; cases e
  | a :: l, s, n + 1 => by
    simp only [setsR, List.mem_append, List.mem_map, mem_setsR]
    constructor
    · rintro (⟨t, ⟨h1, h2⟩, rfl⟩ | ⟨h1, h2⟩)
      · exact ⟨h1.cons_cons a, by simp [h2]⟩
      · exact ⟨h1.cons a, h2⟩
    · rintro ⟨h, hn⟩
      cases h with
      | cons _ h => exact .inr ⟨h, hn⟩
      | cons_cons _ h => exact .inl ⟨_, ⟨h, by simpa using hn⟩, rfl⟩
theorem setsR_asc : ∀ {l : List Int} {n : Nat}, l.Pairwise (· < ·) → (setsR l n).Pairwise fun a b => lexB a b = true
  | l, 0, _ => by cases l <;> simp [setsR]
  | [], n + 1, _ => by simp [setsR]
  | a :: l, n + 1, h => by
    have h' := List.pairwise_cons.1 h
    rw [setsR]
    refine List.pairwise_append.2 ⟨List.pairwise_map.2 ((setsR_asc h'.2).imp fun k => by simp [lexB, k]), setsR_asc h'.2, fun x hx y hy => ?_⟩
    obtain ⟨t, ht, rfl⟩ := List.mem_map.1 hx
    obtain ⟨hs, hn⟩ := mem_setsR.1 hy
    cases y with
    | nil => cases hn
    | cons b y => simp [lexB, h'.1 b (hs.subset (List.mem_cons_self ..))]
def sizeSets (l : List Int) : List (List Int) := (List.range l.length).flatMap fun n => setsR l (n + 1)
theorem mem_sizeSets {l s : List Int} : s ∈ sizeSets l ↔ s.Sublist l ∧ s ≠ [] := by
  simp only [sizeSets, List.mem_flatMap, List.mem_range, mem_setsR]
  constructor
  · rintro ⟨n, h1, h2, h3⟩; exact ⟨h2, by rintro rfl; cases h3⟩
  · rintro ⟨h, hn⟩
    have := h.length_le
    have := List.length_pos_iff.2 hn
    exact ⟨s.length - 1, by omega, h, by omega⟩
theorem sizeSets_asc {l : List Int} (h : l.Pairwise (· < ·)) : (sizeSets l).Pairwise fun a b => befB a b = true := by
  refine List.pairwise_flatMap.2 ⟨fun n _ => ?_, ?_⟩
  · refine (List.Pairwise.and_mem.1 (setsR_asc h)).imp ?_
    rintro a b ⟨ha, hb, k⟩
    simp [befB, (mem_setsR.1 ha).2, (mem_setsR.1 hb).2, k]
  · refine List.Pairwise.imp ?_ (List.pairwise_lt_range (n := l.length))
    intro a b hab x hx y hy
    simp [befB, (mem_setsR.1 hx).2, (mem_setsR.1 hy).2, hab]
theorem find_best {p : List Int → Bool} : ∀ {m : List (List Int)}, (m.Pairwise fun a b => befB a b = true) → Best p m (m.find? p)
  | [], _ => fun _ h => (nomatch h)
  | s :: m, h => by
    have h' := List.pairwise_cons.1 h
    rw [List.find?_cons]
    cases hp : p s with
    | true =>
      refine ⟨List.mem_cons_self .., hp, fun x hx _ => ?_⟩
      rcases List.mem_cons.1 hx with rfl | hx
      · exact befB_irr _
      · exact befB_asym (h'.1 x hx)
    | false =>
      have ih := find_best h'.2 (p := p)
      cases hf : m.find? p with
      | none =>
        rw [hf] at ih
        intro x hx
        rcases List.mem_cons.1 hx with rfl | hx
        · exact hp
        · exact ih x hx
      | some g =>
        rw [hf] at ih
        refine ⟨List.mem_cons_of_mem _ ih.1, ih.2.1, fun x hx hpx => ?_⟩
        rcases List.mem_cons.1 hx with rfl | hx
        · rw [hp] at hpx; cases hpx
        · exact ih.2.2 x hx hpx
/-- Both look for the same. -/
theorem block_same (p : List Int → Bool) {l : List Int} (h : l.Pairwise (· < ·)) : bestL p (bitSets l) = (sizeSets l).find? p :=
  Best.uniq (fun s => mem_bitSets.trans mem_sizeSets.symm) (bestL_best p _) (find_best (sizeSets_asc h))
end Bx
/- part A4 -/
namespace Bx
open Go Go.RowKit
structure Chan where
  name : ByteArray
  delay : Int
  room : Int
structure Town where
  name : ByteArray
  polder : Int
  travel : Int
  lead : Int
  chans : List Int
structure Task where
  polders : Int
  chans : List Chan
  towns : List Town
  floods : List (List Int)
def chanC (c : Chan) : List Value := [.string c.name, .int .i64 c.delay, .int .i64 c.room]
theorem chanC_len (c : Chan) : (chanC c).length = 3 := rfl
def RChan (_ : World) (cs : List Value) (c : Chan) : Prop := cs = chanC c ∧ c.name.size ≤ 9223372036854775807 ∧ I64 c.delay ∧ I64 c.room
theorem RChan.stays : Stays RChan := fun _ _ _ _ _ h => h
def RTown (w : World) (cs : List Value) (x : Town) : Prop := ∃ cv, cs = [.string x.name, .int .i64 x.polder, .int .i64 x.travel, .int .i64 x.lead, cv] ∧ x.name.size ≤ 9223372036854775807 ∧ I64 x.polder ∧ I64 x.travel ∧ I64 x.lead ∧ Sl w 1 RInt cv x.chans ∧ Room x.chans.length 8
theorem RTown.stays : Stays RTown := fun _ _ _ _ e ⟨dv, h1, h2, h3, h4, h5, h6, h7⟩ => ⟨dv, h1, h2, h3, h4, h5, h6.ext RInt.stays e, h7⟩
def RRow (w : World) (cs : List Value) (l : List Int) : Prop := ∃ v, cs = [v] ∧ Sl w 1 RInt v l
theorem RRow.stays : Stays RRow := fun _ _ _ _ e ⟨v, h1, h2⟩ => ⟨v, h1, h2.ext RInt.stays e⟩
def RTask (w : World) (cs : List Value) (t : Task) : Prop := ∃ hv nv fv, cs = [.int .i64 t.polders, hv, nv, fv] ∧ I64 t.polders ∧ Sl w 3 RChan hv t.chans ∧ Sl w 5 RTown nv t.towns ∧ Sl w 1 RRow fv t.floods
theorem RTask.stays : Stays RTask := fun _ _ _ _ e ⟨hv, nv, fv, h1, h2, h3, h4, h5⟩ => ⟨hv, nv, fv, h1, h2, h3.ext RChan.stays e, h4.ext RTown.stays e, h5.ext RRow.stays e⟩
theorem RTask.ext {w w' : World} {cs : List Value} {t : Task} (h : RTask w cs t) (e : Ext w w') : RTask w' cs t := RTask.stays _ _ _ _ e h
/-! ### what is wrong -/
def chanE (c : Chan) : Int := if (outB c.delay 0 50 || outB c.room 0 20) = true then 7 else 0
def townE (pol nch : Int) (x : Town) : Int := if (outB x.polder 0 (pol - 1) || x.chans.any fun c => outB c 0 (nch - 1)) = true then 4 else if ¬ x.chans.Nodup then 5 else if (outB x.travel 0 500 || outB x.lead 0 500) = true then 7 else 0
def floodE (pol : Int) (l : List Int) : Int := if (l.length : Int) ≠ pol then 2 else if (l.any fun n => outB n (-1) 200000) = true then 7 else 0
def firstR {α : Type} (f : α → Int) : List α → Int → Int × Int
  | [], _ => (0, 0)
  | x :: l, i => if f x ≠ 0 then (i, f x) else firstR f l (i + 1)
def checkA (t : Task) : Int × Int × Int :=
  if outB t.polders 0 6 = true then (1, 0, 7)
  else if (4 : Int) < t.chans.length then (2, 0, 3)
  else if (namedR (·.name) chanE t.chans [] 0).2 ≠ 0 then (2, namedR (·.name) chanE t.chans [] 0)
  else if (8 : Int) < t.towns.length then (3, 0, 3)
  else if (namedR (·.name) (townE t.polders t.chans.length) t.towns [] 0).2 ≠ 0 then (3, namedR (·.name) (townE t.polders t.chans.length) t.towns [] 0)
  else if outB t.floods.length 1 8 = true then (4, 0, 3)
  else if (firstR (floodE t.polders) t.floods 0).2 ≠ 0 then (4, firstR (floodE t.polders) t.floods 0)
  else (0, 0, 0)
/-! ### arrivals and stages -/
def arrStep (x : Town) (s : Span × Int) (l : List Int) : Span × Int :=
  if l.getD x.polder.toNat 0 < 0 then s
  else if s.2 = 0 then (⟨l.getD x.polder.toNat 0 + x.travel, l.getD x.polder.toNat 0 + x.travel⟩, 1)
  else (⟨min s.1.lo (l.getD x.polder.toNat 0 + x.travel), max s.1.hi (l.getD x.polder.toNat 0 + x.travel)⟩, s.2 + 1)
def arrF (t : Task) (x : Town) : Span × Int := t.floods.foldl (arrStep x) (⟨0, 0⟩, 0)
def twn (t : Task) (i : Int) : Town := t.towns.getD i.toNat ⟨⟨#[]⟩, 0, 0, 0, []⟩
def chn (t : Task) (c : Int) : Chan := t.chans.getD c.toNat ⟨⟨#[]⟩, 0, 0⟩
def arr (t : Task) (i : Int) : Span × Int := arrF t (twn t i)
def actF (t : Task) (i : Int) : Int := (arr t i).1.lo - (twn t i).lead
def stageF (t : Task) (i now : Int) : Int := if (arr t i).2 = 0 then 0 else if (arr t i).2 = t.floods.length then 2 else if actF t i ≤ now then 2 else 1
def idxL (t : Task) : List Int := (List.range t.towns.length).map Int.ofNat
def wetL (t : Task) : List Int := (idxL t).filter fun i => decide (0 < (arr t i).2)
def latestF (t : Task) (i c : Int) : Int := min 200000 (actF t i - (chn t c).delay)
/-- The task as what a plan is made of. -/
def plT (t : Task) (now : Int) : Pl := ⟨now, wetL t, fun i => (twn t i).chans, latestF t, fun c => (chn t c).room⟩
def chL (t : Task) : List Int := (List.range t.chans.length).map Int.ofNat
def fuelT (t : Task) : Nat := t.chans.length * ((wetL t).length * 20) + 1
def planA (t : Task) (now : Int) : Option (List Slot) := (plT t now).plan (fuelT t)
def atE (t : Task) (now : Int) : Int := if (checkA t).2.2 ≠ 0 then (checkA t).2.2 else if outB now 0 200000 = true then 7 else 0
def ofE (t : Task) (i : Int) : Int := if (checkA t).2.2 ≠ 0 then (checkA t).2.2 else if outB i 0 (t.towns.length - 1) = true then 4 else 0
def planR (t : Task) (now : Int) : List Slot × Int := if atE t now ≠ 0 then ([], atE t now) else match planA t now with | none => ([], 9) | some l => (l, 0)
def arrR (t : Task) (i : Int) : (Span × Int) × Int := if ofE t i ≠ 0 then ((⟨0, 0⟩, 0), ofE t i) else (arr t i, 0)
def stageR (t : Task) (i now : Int) : Int × Int := if ofE t i ≠ 0 then (0, ofE t i) else if outB now 0 200000 = true then (0, 7) else (stageF t i now, 0)
/-! ### a task that is valid -/
theorem namedR_ok {α : Type} {nm : α → ByteArray} {rest : α → Int} : ∀ (l : List α) (seen : List ByteArray) (i : Int), (namedR nm rest l seen i).2 = 0 → (∀ x ∈ l, isName (nm x) = true ∧ rest x = 0 ∧ memB (nm x) seen = false) ∧ (l.map nm).Nodup
  | [], _, _, _ => ⟨fun _ h => (nomatch h), by simp⟩
  | x :: l, seen, i, h => by
    rw [namedR] at h
    split at h
    next => cases h
    next h1 =>
      split at h
      next => cases h
      next h2 =>
        split at h
        next h3 => exact absurd h h3
        next h3 =>
          obtain ⟨k1, k2⟩ := namedR_ok l _ _ h
          refine ⟨fun y hy => ?_, List.nodup_cons.2 ⟨fun hm => ?_, k2⟩⟩
          · rcases List.mem_cons.1 hy with rfl | hy
            · exact ⟨by simpa using h1, by simpa using h3, by simpa using h2⟩
            · have := k1 y hy
              rw [memB_snoc] at this
              simp only [Bool.or_eq_false_iff] at this
              exact ⟨this.1, this.2.1, this.2.2.1⟩
          · obtain ⟨y, hy, e⟩ := List.mem_map.1 hm
            have := (k1 y hy).2.2
            rw [memB_snoc] at this
            simp only [Bool.or_eq_false_iff, decide_eq_false_iff_not] at this
            exact this.2 e
theorem firstR_ok {α : Type} {f : α → Int} : ∀ (l : List α) (i : Int), (firstR f l i).2 = 0 → ∀ x ∈ l, f x = 0
  | [], _, _, _, h => (nomatch h)
  | x :: l, i, h, y, hy => by
    rw [firstR] at h
    split at h
    next h1 => exact absurd h h1
    next h1 =>
      rcases List.mem_cons.1 hy with rfl | hy
      · simpa using h1
      · exact firstR_ok l _ h y hy
structure TownOk (t : Task) (x : Town) : Prop where
  pol : 0 ≤ x.polder ∧ x.polder < t.polders
  chans : ∀ c ∈ x.chans, 0 ≤ c ∧ c < t.chans.length
  nod : x.chans.Nodup
  travel : 0 ≤ x.travel ∧ x.travel ≤ 500
  lead : 0 ≤ x.lead ∧ x.lead ≤ 500
structure TaskOk (t : Task) : Prop where
  pol : 0 ≤ t.polders ∧ t.polders ≤ 6
  nch : t.chans.length ≤ 4
  chan : ∀ c ∈ t.chans, 0 ≤ c.delay ∧ c.delay ≤ 50 ∧ 0 ≤ c.room ∧ c.room ≤ 20
  ntw : t.towns.length ≤ 8
  town : ∀ x ∈ t.towns, TownOk t x
  nfl : 1 ≤ t.floods.length ∧ t.floods.length ≤ 8
  flood : ∀ l ∈ t.floods, (l.length : Int) = t.polders ∧ ∀ n ∈ l, -1 ≤ n ∧ n ≤ 200000
theorem townE_ok {t : Task} {x : Town} (h : townE t.polders t.chans.length x = 0) : TownOk t x := by
  unfold townE at h
  split at h
  next => cases h
  next h1 =>
    split at h
    next => cases h
    next h2 =>
      split at h
      next => cases h
      next h3 =>
        simp only [Bool.or_eq_true, not_or, Bool.not_eq_true, outB_false, List.any_eq_true, not_exists, not_and, Bool.not_eq_true, Decidable.not_not] at h1 h2 h3
        exact ⟨by omega, fun c hc => by have := h1.2 c hc; omega, h2, h3.1, h3.2⟩
theorem task_ok {t : Task} (h : (checkA t).2.2 = 0) : TaskOk t := by
  unfold checkA at h
  split at h
  next => cases h
  next h1 =>
    split at h
    next => cases h
    next h2 =>
      split at h
      next h3 => exact absurd h h3
      next h3 =>
        split at h
        next => cases h
        next h4 =>
          split at h
          next h5 => exact absurd h h5
          next h5 =>
            split at h
            next => cases h
            next h6 =>
              split at h
              next h7 => exact absurd h h7
              next h7 =>
                simp only [Bool.not_eq_true, outB_false, Decidable.not_not] at h1 h3 h5 h6 h7
                refine ⟨h1, by omega, fun c hc => ?_, by omega, fun x hx => townE_ok ((namedR_ok _ _ _ h5).1 x hx).2.1, by omega, fun l hl => ?_⟩
                · have k := ((namedR_ok _ _ _ h3).1 c hc).2.1
                  unfold chanE at k
                  split at k
                  next => cases k
                  next k1 =>
                    simp only [Bool.or_eq_true, not_or, Bool.not_eq_true, outB_false] at k1
                    omega
                · have k := firstR_ok _ _ h7 l hl
                  unfold floodE at k
                  split at k
                  next => cases k
                  next k1 =>
                    split at k
                    next => cases k
                    next k2 =>
                      simp only [List.any_eq_true, not_exists, not_and, Bool.not_eq_true, Decidable.not_not] at k1 k2
                      exact ⟨k1, fun n hn => by have := k2 n hn; first | exact outB_false.1 this | exact this⟩
end Bx
/- part LibF -/
namespace Bx
open Go Go.RowKit
section
variable {κ ν : Type} [DecidableEq κ] {P : Program}
abbrev Tri (κ ν : Type) := κ × ν × Nat
def ent (enc : κ → Value) (dec : ν → Value) (x : Tri κ ν) : MapEntry := ⟨enc x.1, dec x.2.1, x.2.2⟩
def asc : List (Tri κ ν) → κ → Option ν
  | [], _ => none
  | x :: m, k => if k = x.1 then some x.2.1 else asc m k
structure MapS (enc : κ → Value) (dec : ν → Value) (F : κ → Option ν) (m : List (Tri κ ν)) (c : Nat) (o : Obj) : Prop where
  obj : o = .map (m.map (ent enc dec)).toArray c
  keys : (m.map (·.1)).Nodup
  born : (m.map (·.2.2)).Nodup
  clock : ∀ x ∈ m, x.2.2 < c
  fn : ∀ k, asc m k = F k
def MapP (enc : κ → Value) (dec : ν → Value) (F : κ → Option ν) (o : Obj) : Prop := ∃ m c, MapS enc dec F m c o
abbrev mapF (b : Nat) (enc : κ → Value) (dec : ν → Value) (F : κ → Option ν) : Item := cellI b (MapP enc dec F)
abbrev mapT (b : Nat) (enc : κ → Value) (dec : ν → Value) (F : κ → Option ν) (m : List (Tri κ ν)) (c : Nat) : Item := cellI b (MapS enc dec F m c)
/-- A map in which a key's entry waits for its value. -/
def MapE (enc : κ → Value) (dec : ν → Value) (F : κ → Option ν) (k : κ) (st : Nat) (o : Obj) : Prop := ∃ m c F0, MapS enc dec F0 m c o ∧ (∀ j, j ≠ k → F0 j = F j) ∧ ∃ v, (k, v, st) ∈ m
theorem asc_none : ∀ {m : List (Tri κ ν)} {k : κ}, asc m k = none ↔ ∀ x ∈ m, x.1 ≠ k
  | [], k => by simp [asc]
  | x :: m, k => by
    rw [asc]
    by_cases h : k = x.1
    · rw [if_pos h]; simp; intro hh; exact absurd h.symm hh
    · rw [if_neg h, asc_none]; simp; intro _; exact fun e => h e.symm
theorem asc_mem : ∀ {m : List (Tri κ ν)} {k : κ} {v : ν}, (m.map (·.1)).Nodup → (asc m k = some v ↔ ∃ b, (k, v, b) ∈ m)
  | [], k, v, _ => by simp [asc]
  | x :: m, k, v, hn => by
    rw [List.map_cons, List.nodup_cons] at hn
    rw [asc]
    by_cases h : k = x.1
    · rw [if_pos h]
      subst h
      constructor
      · intro e; cases e; exact ⟨x.2.2, List.mem_cons_self ..⟩
      · rintro ⟨b, hb⟩
        rcases List.mem_cons.1 hb with e | e
        · rw [← e]
        · exact absurd (List.mem_map.2 ⟨_, e, rfl⟩) hn.1
    · rw [if_neg h, asc_mem hn.2]
      constructor
      · rintro ⟨b, hb⟩; exact ⟨b, List.mem_cons_of_mem _ hb⟩
      · rintro ⟨b, hb⟩
        rcases List.mem_cons.1 hb with e | e
        · exact absurd (congrArg Prod.fst e) h
        · exact ⟨b, e⟩
theorem asc_mid (l1 l2 : List (Tri κ ν)) (x : Tri κ ν) (v : ν) (b : Nat) (hn : ((l1 ++ x :: l2).map (·.1)).Nodup) (k : κ) : asc (l1 ++ (x.1, v, b) :: l2) k = if k = x.1 then some v else asc (l1 ++ x :: l2) k := by
  induction l1 with
  | nil =>
    rw [List.nil_append, List.nil_append, asc, asc]
    by_cases h : k = x.1
    · rw [if_pos h, if_pos h]
    · rw [if_neg h, if_neg h, if_neg h]
  | cons y l1 ih =>
    simp only [List.cons_append, List.map_cons, List.nodup_cons] at hn
    have ih := ih hn.2
    simp only [List.cons_append, asc, ih]
    by_cases h : k = y.1
    · subst h
      have : y.1 ≠ x.1 := fun e => hn.1 (by simp [e])
      simp [this]
    · simp [h]
theorem asc_push (m : List (Tri κ ν)) (x : Tri κ ν) (hx : asc m x.1 = none) (k : κ) : asc (m ++ [x]) k = if k = x.1 then some x.2.1 else asc m k := by
  induction m with
  | nil => rfl
  | cons y m ih =>
    rw [asc] at hx
    split at hx
    · cases hx
    next hne =>
      simp only [List.cons_append, asc, ih hx]
      by_cases h : k = y.1
      · subst h
        have h2 : ¬ y.1 = x.1 := fun e => hne e.symm
        simp [h2]
      · simp [h]
theorem asc_erase (l1 l2 : List (Tri κ ν)) (x : Tri κ ν) (hn : ((l1 ++ x :: l2).map (·.1)).Nodup) (k : κ) : asc (l1 ++ l2) k = if k = x.1 then none else asc (l1 ++ x :: l2) k := by
  induction l1 with
  | nil =>
    rw [List.nil_append, List.nil_append, asc]
    simp only [List.nil_append, List.map_cons, List.nodup_cons] at hn
    by_cases h : k = x.1
    · rw [if_pos h]; refine asc_none.2 fun y hy e => hn.1 (List.mem_map.2 ⟨y, hy, e.trans h⟩)
    · rw [if_neg h, if_neg h]
  | cons y l1 ih =>
    simp only [List.cons_append, List.map_cons, List.nodup_cons] at hn
    have ih := ih hn.2
    simp only [List.cons_append, asc, ih]
    by_cases h : k = y.1
    · subst h
      have : y.1 ≠ x.1 := fun e => hn.1 (by simp [e])
      simp [this]
    · simp [h]
theorem asc_split {m : List (Tri κ ν)} {k : κ} {v : ν} {b : Nat} (h : (k, v, b) ∈ m) : ∃ l1 l2, m = l1 ++ (k, v, b) :: l2 := List.append_of_mem h
theorem modify_mid {α : Type} (f : α → α) (x : α) (l2 : List α) : ∀ l1 : List α, (l1 ++ x :: l2).modify l1.length f = l1 ++ f x :: l2
  | [] => rfl
  | y :: l1 => by simp [List.modify_succ_cons, modify_mid f x l2 l1]
theorem erase_mid {α : Type} (x : α) (l2 : List α) : ∀ l1 : List α, (l1 ++ x :: l2).eraseIdx l1.length = l1 ++ l2
  | [] => rfl
  | y :: l1 => by simp [erase_mid x l2 l1]
/-- A key's type: how keys are found, and that they are told apart. -/
structure KeyI (P : Program) (T : TypeId) (enc : κ → Value) : Prop where
  fn : KeyFn P T enc
  inj : ∀ a b, enc a = enc b → a = b
theorem KeyOk.fnI {T : TypeId} {enc : κ → Value} (hk : KeyOk P T enc) : KeyI P T enc := by
  obtain ⟨d, hd, hs, h2⟩ := hk.und
  refine ⟨⟨fun e k w => run_checkKey hk e _ w, fun k es m w h => ?_, hk.bits⟩, fun a b e => ?_⟩
  · obtain ⟨r, hr, h1, h2, h3⟩ := findNow_get hs k es m 0 h
    exact ⟨r, by simp [Instr.findKey, run_underlying hd, hr], h1, h2, h3⟩
  · have h1 := hs a a
    have h3 := hs a b
    rw [← e, h1] at h3
    simpa using h3
theorem run_find {T : TypeId} {enc : κ → Value} {dec : ν → Value} (hk : KeyI P T enc) (k : κ) (m : List (Tri κ ν)) (hn : (m.map (·.1)).Nodup) (w : World) :
    ∃ r, (Instr.findKey T (enc k) (m.map (ent enc dec))).run P w = .ok r w ∧ ((r = none ∧ asc m k = none) ∨ ∃ l1 v b l2, m = l1 ++ (k, v, b) :: l2 ∧ r = some (l1.length, dec v) ∧ asc m k = some v) := by
  obtain ⟨r, hr, h1, h2, h3⟩ := hk.fn.find k (m.map (ent enc dec)) (m.map fun x => (x.1, dec x.2.1)) w (by simp [ent, Function.comp_def])
  refine ⟨r, hr, ?_⟩
  have hget : ∀ m : List (Tri κ ν), getM (m.map fun x => (x.1, dec x.2.1)) k = (asc m k).map dec := by
    intro m
    induction m with
    | nil => rfl
    | cons x m ih => simp only [List.map_cons, getM, asc]; split <;> simp_all
  rw [hget] at h1
  cases r with
  | none =>
    refine .inl ⟨rfl, ?_⟩
    cases ha : asc m k with
    | none => rfl
    | some v => rw [ha] at h1; cases h1
  | some p =>
    obtain ⟨j, v0⟩ := p
    obtain ⟨l, hj, hl, hkey, -⟩ := h2 j v0 rfl
    rw [Nat.zero_add] at hj
    subst hj
    have hl' : j < m.length := by simpa using hl
    have hkk : (m[j]).1 = k := hk.inj _ _ (by simpa [ent] using hkey)
    have hsplit : m = m.take j ++ m[j] :: m.drop (j + 1) := by simp
    have hasc : asc m k = some (m[j]).2.1 := (asc_mem hn).2 ⟨(m[j]).2.2, by rw [← hkk]; exact List.getElem_mem hl'⟩
    rw [hasc] at h1
    simp only [Option.map_some, Option.some.injEq] at h1
    refine .inr ⟨m.take j, (m[j]).2.1, (m[j]).2.2, m.drop (j + 1), ?_, ?_, hasc⟩
    · have e : m[j] = (k, (m[j]).2.1, (m[j]).2.2) := by rw [← hkk]
      rw [← e]; exact hsplit
    · rw [h1, List.length_take, Nat.min_eq_left (by omega)]
variable {T K E : TypeId} {enc : κ → Value} {dec : ν → Value} {F : κ → Option ν} {w : World} {b : Nat} {k : κ} {v : ν}
theorem run_lookupF {z : Value} {ok : Bool} (hT : ∀ w, (underlying T).run P w = .ok (.map K E) w) (hk : KeyI P K enc) (hz : ∀ w, (zeroValue E).run P w = .ok z w) (hb : ∃ o, w.heap[b]? = some o ∧ MapP enc dec F o) :
    (Instr.lookup T (.map (some b)) (enc k) ok).run P w = .ok (if ok then .tuple #[((F k).map dec).getD z, .bool (F k).isSome] else ((F k).map dec).getD z) w := by
  obtain ⟨o, hb, m, c, rfl, hn, -, -, hf⟩ := hb
  obtain ⟨r, hr, hor⟩ := run_find hk k m hn w (dec := dec)
  have hget : (getObj b).run P w = .ok (.map (m.map (ent enc dec)).toArray c) w := by simp [getObj, Sem.run, hb]
  rw [← hf k]
  rcases hor with ⟨rfl, ha⟩ | ⟨l1, v, bn, l2, -, rfl, ha⟩
  · rw [ha]
    cases ok <;> simp [Instr.lookup, hT, hget, hk.fn.check, hr, hz]
  · rw [ha]
    cases ok <;> simp [Instr.lookup, hT, hget, hk.fn.check, hr, hz]
theorem set_obj {es : Array MapEntry} {c0 : Nat} {o' : Obj} (hb : w.heap[b]? = some (.map es c0)) : (setObj b o').run P w = .ok () { w with heap := w.heap.setIfInBounds b o' } ∧ Put b o' w { w with heap := w.heap.setIfInBounds b o' } := by
  have hlt := lt_of_heap hb
  refine ⟨by simp [setObj, Sem.run, hb], rfl, rfl, rfl, by simp, by simp [hlt], fun j _ hj => ?_⟩
  show (w.heap.setIfInBounds b o')[j]? = _
  rw [Array.getElem?_setIfInBounds, if_neg (fun e => hj e.symm)]
theorem MapS.put {m : List (Tri κ ν)} {c : Nat} {o : Obj} {l1 l2 : List (Tri κ ν)} {v0 : ν} {bn : Nat} (h : MapS enc dec F m c o) (hm : m = l1 ++ (k, v0, bn) :: l2) (v : ν) :
    MapS enc dec (fset F k (some v)) (l1 ++ (k, v, bn) :: l2) c (.map ((l1 ++ (k, v, bn) :: l2).map (ent enc dec)).toArray c) where
  obj := rfl
  keys := by have := h.keys; rw [hm] at this; simpa using this
  born := by have := h.born; rw [hm] at this; simpa using this
  clock := fun x hx => by
    have := h.clock
    rw [hm] at this
    simp only [List.mem_append, List.mem_cons] at hx this
    rcases hx with hx | rfl | hx
    · exact this x (.inl hx)
    · exact this (k, v0, bn) (.inr (.inl rfl))
    · exact this x (.inr (.inr hx))
  fn := fun j => by
    have hk := h.keys
    rw [hm] at hk
    have := asc_mid l1 l2 (k, v0, bn) v bn hk j
    simp only at this
    rw [this, ← hm, h.fn]; rfl
theorem MapS.push {m : List (Tri κ ν)} {c : Nat} {o : Obj} (h : MapS enc dec F m c o) (hk : asc m k = none) (v : ν) : MapS enc dec (fset F k (some v)) (m ++ [(k, v, c)]) (c + 1) (.map ((m ++ [(k, v, c)]).map (ent enc dec)).toArray (c + 1)) where
  obj := rfl
  keys := by
    rw [List.map_append]
    refine List.nodup_append.2 ⟨h.keys, by simp, fun a ha x hx e => ?_⟩
    simp only [List.map_cons, List.map_nil, List.mem_singleton] at hx
    obtain ⟨y, hy, rfl⟩ := List.mem_map.1 ha
    exact asc_none.1 hk y hy (e.trans hx)
  born := by
    rw [List.map_append]
    refine List.nodup_append.2 ⟨h.born, by simp, fun a ha x hx e => ?_⟩
    simp only [List.map_cons, List.map_nil, List.mem_singleton] at hx
    obtain ⟨y, hy, rfl⟩ := List.mem_map.1 ha
    have := h.clock y hy
    omega
  clock := fun x hx => by
    rcases List.mem_append.1 hx with hx | hx
    · exact Nat.lt_succ_of_lt (h.clock x hx)
    · rw [List.mem_singleton.1 hx]; exact Nat.lt_succ_self _
  fn := fun j => by
    rw [asc_push m (k, v, c) hk j, h.fn]; rfl
theorem run_updF (hT : ∀ w, (underlying T).run P w = .ok (.map K E) w) (hk : KeyI P K enc) (hb : ∃ o, w.heap[b]? = some o ∧ MapP enc dec F o) :
    ∃ o' w', (Instr.mapUpdate T (.map (some b)) (enc k) (dec v)).run P w = .ok () w' ∧ Put b o' w w' ∧ MapP enc dec (fset F k (some v)) o' := by
  obtain ⟨o, hb, m, c, hm⟩ := hb
  have ho := hm.obj
  subst ho
  obtain ⟨r, hr, hor⟩ := run_find hk k m hm.keys w (dec := dec)
  have hget : (getObj b).run P w = .ok (.map (m.map (ent enc dec)).toArray c) w := by simp [getObj, Sem.run, hb]
  rcases hor with ⟨rfl, ha⟩ | ⟨l1, v0, bn, l2, hsp, rfl, ha⟩
  · obtain ⟨s1, s2⟩ := set_obj (P := P) (o' := .map ((m ++ [(k, v, c)]).map (ent enc dec)).toArray (c + 1)) hb
    refine ⟨_, _, ?_, s2, _, _, hm.push ha v⟩
    have e : (m.map (ent enc dec)).toArray.push ⟨enc k, dec v, c⟩ = ((m ++ [(k, v, c)]).map (ent enc dec)).toArray := by simp [ent]
    simp only [Instr.mapUpdate, Sem.run_bind, hT, Result.andThen_ok, hget, hk.fn.check, hr, Sem.run_pure, e, s1]
  · obtain ⟨s1, s2⟩ := set_obj (P := P) (o' := .map ((l1 ++ (k, v, bn) :: l2).map (ent enc dec)).toArray c) hb
    refine ⟨_, _, ?_, s2, _, _, hm.put hsp v⟩
    have e : (m.map (ent enc dec)).toArray.modify l1.length (fun e => { e with key := enc k, val := dec v }) = ((l1 ++ (k, v, bn) :: l2).map (ent enc dec)).toArray := by
      apply Array.ext'
      rw [Array.toList_modify, hsp]
      simp only [List.map_append, List.map_cons]
      have := modify_mid (fun e : MapEntry => { e with key := enc k, val := dec v }) (ent enc dec (k, v0, bn)) (l2.map (ent enc dec)) (l1.map (ent enc dec))
      rw [List.length_map] at this
      rw [this]; rfl
    have hst : ∀ w, (Instr.keyThatStays ((((m.map (ent enc dec)).toArray[l1.length]?).map (·.key)).getD (enc k)) (enc k)).run P w = .ok (enc k) w := fun w => by
      have : (m.map (ent enc dec)).toArray[l1.length]? = some (ent enc dec (k, v0, bn)) := by rw [hsp]; simp
      rw [this]
      simp [Instr.keyThatStays, ent, hk.fn.bits]
    simp only [Instr.mapUpdate, Sem.run_bind, hT, Result.andThen_ok, hget, hk.fn.check, hr, Sem.run_pure, hst, e, s1]
theorem run_entryF {z0 : ν} (hT : ∀ w, (underlying T).run P w = .ok (.map K E) w) (hk : KeyI P K enc) (hz : ∀ w, (zeroValue E).run P w = .ok (dec z0) w) (hb : ∃ o, w.heap[b]? = some o ∧ MapP enc dec F o) :
    ∃ v0 st o' w', (Instr.mapEntry T (.map (some b)) (enc k)).run P w = .ok (.tuple #[v0, .int .i64 (st : Nat)]) w' ∧ Put b o' w w' ∧ MapE enc dec F k st o' := by
  obtain ⟨o, hb, m, c, hm⟩ := hb
  have ho := hm.obj
  subst ho
  obtain ⟨r, hr, hor⟩ := run_find hk k m hm.keys w (dec := dec)
  have hget : (getObj b).run P w = .ok (.map (m.map (ent enc dec)).toArray c) w := by simp [getObj, Sem.run, hb]
  rcases hor with ⟨rfl, ha⟩ | ⟨l1, v0, bn, l2, hsp, rfl, ha⟩
  · obtain ⟨s1, s2⟩ := set_obj (P := P) (o' := .map ((m ++ [(k, z0, c)]).map (ent enc dec)).toArray (c + 1)) hb
    refine ⟨dec z0, c, _, _, ?_, s2, _, _, _, hm.push ha z0, fun j hj => fset_ne _ _ hj, z0, by simp⟩
    have e : (m.map (ent enc dec)).toArray.push ⟨enc k, dec z0, c⟩ = ((m ++ [(k, z0, c)]).map (ent enc dec)).toArray := by simp [ent]
    simp only [Instr.mapEntry, Sem.run_bind, hT, Result.andThen_ok, hget, hk.fn.check, hr, hz, Sem.run_pure, e, s1]
    rfl
  · obtain ⟨s1, s2⟩ := set_obj (P := P) (o' := .map ((l1 ++ (k, v0, bn) :: l2).map (ent enc dec)).toArray c) hb
    refine ⟨dec v0, bn, _, _, ?_, s2, _, _, _, hm.put hsp v0, fun j hj => fset_ne _ _ hj, v0, by simp⟩
    have e : (m.map (ent enc dec)).toArray.modify l1.length (fun e => { e with key := enc k }) = ((l1 ++ (k, v0, bn) :: l2).map (ent enc dec)).toArray := by
      apply Array.ext'
      rw [Array.toList_modify, hsp]
      simp only [List.map_append, List.map_cons]
      have := modify_mid (fun e : MapEntry => { e with key := enc k }) (ent enc dec (k, v0, bn)) (l2.map (ent enc dec)) (l1.map (ent enc dec))
      rw [List.length_map] at this
      rw [this]; rfl
    have hj : (m.map (ent enc dec)).toArray[l1.length]? = some (ent enc dec (k, v0, bn)) := by rw [hsp]; simp
    have hst : ∀ w, (Instr.keyThatStays ((((m.map (ent enc dec)).toArray[l1.length]?).map (·.key)).getD (enc k)) (enc k)).run P w = .ok (enc k) w := fun w => by
      rw [hj]
      simp [Instr.keyThatStays, ent, hk.fn.bits]
    simp only [Instr.mapEntry, Sem.run_bind, hT, Result.andThen_ok, hget, hk.fn.check, hr, Sem.run_pure, hst, e, s1]
    rw [hj]
    rfl
theorem find_born {l1 l2 : List MapEntry} {x : MapEntry} (hn : ((l1 ++ x :: l2).map (·.born)).Nodup) : (l1 ++ x :: l2).findIdx? (fun e => (e.born : Int) == (x.born : Int)) = some l1.length := by
  induction l1 with
  | nil => simp [List.findIdx?_cons]
  | cons y l1 ih =>
    simp only [List.cons_append, List.map_cons, List.nodup_cons] at hn
    have : ((y.born : Int) == (x.born : Int)) = false := by
      simp only [beq_eq_false_iff_ne, ne_eq, Int.natCast_inj]
      exact fun e => hn.1 (by simp [e])
    rw [List.cons_append, List.findIdx?_cons, this]
    simp [ih hn.2]
theorem run_estoreF {st : Nat} (hb : ∃ o, w.heap[b]? = some o ∧ MapE enc dec F k st o) : ∃ o' w', (Instr.entryStore T (.map (some b)) (.int .i64 (st : Nat)) (dec v)).run P w = .ok () w' ∧ Put b o' w w' ∧ MapP enc dec (fset F k (some v)) o' := by
  obtain ⟨o, hb, m, c, F0, hm, hF, v0, hmem⟩ := hb
  have ho := hm.obj
  subst ho
  obtain ⟨l1, l2, hsp⟩ := asc_split hmem
  have hget : (getObj b).run P w = .ok (.map (m.map (ent enc dec)).toArray c) w := by simp [getObj, Sem.run, hb]
  obtain ⟨s1, s2⟩ := set_obj (P := P) (o' := .map ((l1 ++ (k, v, st) :: l2).map (ent enc dec)).toArray c) hb
  have h2 := hm.put hsp v
  refine ⟨_, _, ?_, s2, _, _, h2.obj, h2.keys, h2.born, h2.clock, fun j => ?_⟩
  · have hidx : (m.map (ent enc dec)).toArray.findIdx? (fun e => (e.born : Int) == (st : Int)) = some l1.length := by
      have := find_born (l1 := l1.map (ent enc dec)) (l2 := l2.map (ent enc dec)) (x := ent enc dec (k, v0, st)) (by
        have h := hm.born
        rw [hsp] at h
        simpa [ent, Function.comp_def] using h)
      rw [List.length_map] at this
      rw [hsp]
      simpa [ent] using this
    have e : (m.map (ent enc dec)).toArray.modify l1.length (fun e => { e with val := dec v }) = ((l1 ++ (k, v, st) :: l2).map (ent enc dec)).toArray := by
      apply Array.ext'
      rw [Array.toList_modify, hsp]
      simp only [List.map_append, List.map_cons]
      have := modify_mid (fun e : MapEntry => { e with val := dec v }) (ent enc dec (k, v0, st)) (l2.map (ent enc dec)) (l1.map (ent enc dec))
      rw [List.length_map] at this
      rw [this]; rfl
    clear s2 h2
    generalize ((l1 ++ (k, v, st) :: l2).map (ent enc dec)).toArray = G at e s1 ⊢
    simp [Instr.entryStore, hget, asInt, asIntOf, hidx, e, s1, Result.andThen]
  · rw [h2.fn j]
    unfold fset
    by_cases e : j = k
    · rw [if_pos e, if_pos e]
    · rw [if_neg e, if_neg e]; exact hF j e
theorem run_delF {ty : TypeId} (hT : ∀ w, (underlying T).run P w = .ok (.map K E) w) (hk : KeyI P K enc) (hb : ∃ o, w.heap[b]? = some o ∧ MapP enc dec F o) :
    ∃ o' w', (Builtin.delete_ #[T, K] ty #[.map (some b), enc k]).run P w = .ok (.tuple #[]) w' ∧ Put b o' w w' ∧ MapP enc dec (fdel F k) o' := by
  obtain ⟨o, hb, m, c, hm⟩ := hb
  have ho := hm.obj
  subst ho
  obtain ⟨r, hr, hor⟩ := run_find hk k m hm.keys w (dec := dec)
  have hget : (getObj b).run P w = .ok (.map (m.map (ent enc dec)).toArray c) w := by simp [getObj, Sem.run, hb]
  rcases hor with ⟨rfl, ha⟩ | ⟨l1, v0, bn, l2, hsp, rfl, ha⟩
  · obtain ⟨s1, s2⟩ := set_obj (P := P) (o' := .map (m.map (ent enc dec)).toArray c) hb
    refine ⟨_, _, ?_, s2, m, c, rfl, hm.keys, hm.born, hm.clock, fun j => ?_⟩
    · simp [Builtin.delete_, hT, hget, hk.fn.check, hr, s1]
    · unfold fdel
      by_cases e : j = k
      · rw [if_pos e, e, ha]
      · rw [if_neg e]; exact hm.fn j
  · obtain ⟨s1, s2⟩ := set_obj (P := P) (o' := .map ((l1 ++ l2).map (ent enc dec)).toArray c) hb
    have hk1 := hm.keys
    have hb1 := hm.born
    have hc1 := hm.clock
    have hf1 := hm.fn
    rw [hsp] at hk1 hb1 hc1
    refine ⟨_, _, ?_, s2, l1 ++ l2, c, rfl, ?_, ?_, fun x hx => hc1 x (by simp only [List.mem_append, List.mem_cons] at hx ⊢; exact hx.imp id .inr), fun j => ?_⟩
    · have e : (m.map (ent enc dec)).toArray.eraseIdxIfInBounds l1.length = ((l1 ++ l2).map (ent enc dec)).toArray := by
        apply Array.ext'
        rw [Array.toList_eraseIdxIfInBounds, hsp]
        simp only [List.map_append, List.map_cons]
        have := erase_mid (ent enc dec (k, v0, bn)) (l2.map (ent enc dec)) (l1.map (ent enc dec))
        rw [List.length_map] at this
        exact this
      clear s2
      generalize ((l1 ++ l2).map (ent enc dec)).toArray = G at e s1 ⊢
      have e2 : ((m.map (ent enc dec)).eraseIdx l1.length).toArray = G := by rw [← e]; simp
      simp [Builtin.delete_, hT, hget, hk.fn.check, hr, e2, s1]
    · rw [List.map_append, List.map_cons] at hk1; rw [List.map_append]
      exact hk1.sublist (List.Sublist.append_left (List.sublist_cons_self _ _) _)
    · rw [List.map_append, List.map_cons] at hb1; rw [List.map_append]
      exact hb1.sublist (List.Sublist.append_left (List.sublist_cons_self _ _) _)
    · rw [asc_erase l1 l2 (k, v0, bn) hk1 j, ← hsp, hf1]; rfl
end
end Bx
/- part LibH -/
namespace Bx
open Go Go.RowKit
/-- L with something else of what lies at b. -/
class SetA (L : List Item) (b : Nat) (Lf : outParam ((Obj → Prop) → List Item)) where
  inst : ∀ p, SetB L b p (Lf p)
instance (priority := high) setaHere (b : Nat) (p : Obj → Prop) (L : List Item) : SetA (cellI b p :: L) b (fun q => cellI b q :: L) := ⟨fun q => setHere b p q L⟩
instance (priority := low) setaThere (it : Item) (L : List Item) (b : Nat) (Lf : (Obj → Prop) → List Item) [i : SetA L b Lf] : SetA (it :: L) b (fun q => it :: Lf q) := ⟨fun q => @setThere it L b q (Lf q) (i.inst q)⟩
theorem put_self {b : Nat} {o : Obj} {w : World} (h : w.heap[b]? = some o) : Put b o w w := ⟨rfl, rfl, rfl, Nat.le_refl _, h, fun _ _ _ => rfl⟩
theorem StX.re {S : List Nat} {w0 w : World} {L L' : List Item} {b : Nat} {p : Obj → Prop} (h : StX S w0 w L) (ho : ∃ o, w.heap[b]? = some o ∧ p o) [i : SetB L b p L'] : StX S w0 w L' := by
  obtain ⟨o, h1, h2⟩ := ho
  exact h.puts (put_self h1) h2
section
variable {κ ν : Type} [DecidableEq κ] {enc : κ → Value} {dec : ν → Value} {F : κ → Option ν} {m : List (Tri κ ν)} {c b : Nat}
theorem StX.opn {S : List Nat} {w0 w : World} {L : List Item} (h : StX S w0 w L) (b : Nat) [i : AtB L b (MapP enc dec F)] : ∃ m c, ∃ o, w.heap[b]? = some o ∧ MapS enc dec F m c o := by
  obtain ⟨o, h1, m, c, h2⟩ := h.is b
  exact ⟨m, c, o, h1, h2⟩
theorem StX.shut {S : List Nat} {w0 w : World} {L L' : List Item} (h : StX S w0 w L) (b : Nat) [i : AtB L b (MapS enc dec F m c)] [j : SetB L b (MapP enc dec F) L'] : StX S w0 w L' := by
  obtain ⟨o, h1, h2⟩ := h.is b
  exact h.re (b := b) (p := MapP enc dec F) ⟨o, h1, m, c, h2⟩
variable {P : Program} {ρ : Operand → Value} {w : World} {ty : TypeId} {T K E : TypeId} {k : κ} {z v : Value} {xm xk : Operand}
theorem yLookF (hm : ρ xm = .map (some b)) (hx : ρ xk = enc k) (hT : ∀ w, (underlying T).run P w = .ok (.map K E) w) (hk : KeyI P K enc) (hz : ∀ w, (zeroValue E).run P w = .ok z w) (hb : ∃ o, w.heap[b]? = some o ∧ MapP enc dec F o) (hv : ((F k).map dec).getD z = v) :
    Y P ρ (.lookup T xm xk false) ty w v w := by
  have := run_lookupF (k := k) (ok := false) hT hk hz hb
  subst hv
  simp [Y, xop, execOp, hm, hx, this]
theorem yLookFOk (hm : ρ xm = .map (some b)) (hx : ρ xk = enc k) (hT : ∀ w, (underlying T).run P w = .ok (.map K E) w) (hk : KeyI P K enc) (hz : ∀ w, (zeroValue E).run P w = .ok z w) (hb : ∃ o, w.heap[b]? = some o ∧ MapP enc dec F o) (hv : ((F k).map dec).getD z = v) :
    Y P ρ (.lookup T xm xk true) ty w (.tuple #[v, .bool (F k).isSome]) w := by
  have := run_lookupF (k := k) (ok := true) hT hk hz hb
  subst hv
  simp [Y, xop, execOp, hm, hx, this]
theorem yEntryR {x : Tri κ ν} {seen : List Nat} {bi : Nat} {xi : Operand} (hx : ρ xi = .pointer (some ⟨bi, 0, none⟩)) (hi : w.heap[bi]? = some (.mapIter (some b) c (seen ++ [x.2.2]).toArray c)) (hb : ∃ o, w.heap[b]? = some o ∧ MapS enc dec F m c o) (hm : x ∈ m) :
    Y P ρ (.entry xi) ty w (.tuple #[enc x.1, dec x.2.1]) w := by
  obtain ⟨o, hb, hS⟩ := hb
  have ho := hS.obj
  subst ho
  have h1 : (getObj bi).run P w = .ok (.mapIter (some b) c (seen ++ [x.2.2]).toArray c) w := by simp only [getObj, Sem.run, hi]
  have h2 : (getObj b).run P w = .ok (.map (m.map (ent enc dec)).toArray c) w := by simp only [getObj, Sem.run, hb]
  have h3 : (m.map (ent enc dec)).find? (fun e => e.born == x.2.2) = some (ent enc dec x) := by
    have hbn := hS.born
    clear hS hb h2
    induction m with
    | nil => cases hm
    | cons y m ih =>
      rw [List.map_cons, List.nodup_cons] at hbn
      rw [List.map_cons, List.find?_cons]
      by_cases e : y.2.2 = x.2.2
      · have : y = x := by
          rcases List.mem_cons.1 hm with h | h
          · exact h.symm
          · exact absurd (List.mem_map.2 ⟨x, h, e.symm⟩) hbn.1
        subst this
        simp [ent]
      · have : ((ent enc dec y).born == x.2.2) = false := by simpa [ent] using e
        rw [this]
        refine ih ?_ hbn.2
        rcases List.mem_cons.1 hm with h | h
        · exact absurd (congrArg (fun q : Tri κ ν => q.2.2) h.symm) e
        · exact h
  have h4 : (m.map (ent enc dec)).toArray.find? (fun e => e.born == x.2.2) = some (ent enc dec x) := by rw [List.find?_toArray]; exact h3
  simp only [Y, xop, execOp, hx, Instr.entry, Sem.run_bind, h1, Result.andThen_ok]
  simp [h2, h4, Result.andThen, ent]
end
section
variable {κ ν : Type} [DecidableEq κ] {enc : κ → Value} {dec : ν → Value} {F : κ → Option ν} {m : List (Tri κ ν)} {c b bi st : Nat} {seen : List Nat} {z0 u : ν} {k : κ}
variable {P : Program} {ops : Array Oper} {Q : Exit → Act → World → Prop} {n : Nat} {f : Fr} {S : List Nat} {w0 w w' : World} {L L' : List Item} {rest : List Oper} {d : Nat} {ty : TypeId} {pos : String} {af : Array Edge} {T K E K' : TypeId} {xm xk xv xi xs : Operand}
omit [DecidableEq κ] in
theorem MapP.nil [DecidableEq κ] : MapP enc dec (fun _ : κ => (none : Option ν)) (.map #[] 0) := ⟨[], 0, rfl, by simp, by simp, fun _ h => (nomatch h), fun _ => rfl⟩
theorem smkmapF (enc : κ → Value) (dec : ν → Value) (hS : StX S w0 w L) (h : ∀ b w', StX S w0 w' (mapF b enc dec (fun _ => none) :: L) → wpL P ops Q n rest (upd f d (.map (some b))) w') : wpL P ops Q n (⟨some d, .makeMap T none, ty, pos, af, none⟩ :: rest) f w := by
  refine sv (v := .map (some w.heap.size)) (w' := w.alloc (.map #[] 0)) ?_ (h w.heap.size _ (hS.call1 ⟨(ext_alloc w _).extX, ?_, ?_, ?_⟩))
  · simp [Y, xop, execOp, Instr.makeMap]
  · intro it hit
    obtain rfl : it = _ := by simpa using hit
    exact ⟨_, heap_alloc_new w _, MapP.nil⟩
  · intro b hb
    obtain rfl : b = _ := by simpa [fps, cellI] using hb
    exact .inl (Nat.le_refl _)
  · simp [fps, cellI]
theorem smapsetF (hS : StX S w0 w L) (hm : ev n f xm = .map (some b)) (hx : ev n f xk = enc k) (hv : ev n f xv = dec u) (hT : ∀ w, (underlying T).run P w = .ok (.map K E) w) (hk : KeyI P K enc) [i : AtB L b (MapP enc dec F)] [j : SetB L b (MapP enc dec (fset F k (some u))) L']
    (h : ∀ w', StX S w0 w' L' → wpL P ops Q n rest f w') : wpL P ops Q n (⟨none, .mapUpdate T xm xk xv, ty, pos, af, none⟩ :: rest) f w := by
  obtain ⟨o', w', hr, hp, ho⟩ := run_updF (k := k) (v := u) hT hk (hS.is b)
  refine wpL_skip (w' := w') ?_ (h w' (hS.puts hp ho))
  simp [xop, execOp, hm, hx, hv, hr]
theorem sentryF (hS : StX S w0 w L) (hm : ev n f xm = .map (some b)) (hx : ev n f xk = enc k) (hT : ∀ w, (underlying T).run P w = .ok (.map K E) w) (hk : KeyI P K enc) (hz : ∀ w, (zeroValue E).run P w = .ok (dec z0) w) {Lf : (Obj → Prop) → List Item} [i : AtB L b (MapP enc dec F)] [j : SetA L b Lf]
    (h : ∀ v0 st w', StX S w0 w' (Lf (MapE enc dec F k st)) → wpL P ops Q n rest (upd f d (.tuple #[v0, .int .i64 (st : Nat)])) w') : wpL P ops Q n (⟨some d, .mapEntry T xm xk, ty, pos, af, none⟩ :: rest) f w := by
  obtain ⟨v0, st, o', w', hr, hp, ho⟩ := run_entryF (k := k) hT hk hz (hS.is b)
  haveI := j.inst (MapE enc dec F k st)
  refine sv (v := .tuple #[v0, .int .i64 (st : Nat)]) (w' := w') ?_ (h v0 st w' (hS.puts hp ho))
  simp [Y, xop, execOp, hm, hx, hr]
theorem sestF (hS : StX S w0 w L) (hm : ev n f xm = .map (some b)) (hs : ev n f xs = .int .i64 (st : Nat)) (hv : ev n f xv = dec u) [i : AtB L b (MapE enc dec F k st)] [j : SetB L b (MapP enc dec (fset F k (some u))) L']
    (h : ∀ w', StX S w0 w' L' → wpL P ops Q n rest f w') : wpL P ops Q n (⟨none, .entryStore T xm xs xv, ty, pos, af, none⟩ :: rest) f w := by
  obtain ⟨o', w', hr, hp, ho⟩ := run_estoreF (T := T) (v := u) (P := P) (hS.is b)
  refine wpL_skip (w' := w') ?_ (h w' (hS.puts hp ho))
  simp [xop, execOp, hm, hs, hv, hr]
theorem sdelF (hS : StX S w0 w L) (hm : ev n f xm = .map (some b)) (hx : ev n f xk = enc k) (hT : ∀ w, (underlying T).run P w = .ok (.map K E) w) (hk : KeyI P K enc) [i : AtB L b (MapP enc dec F)] [j : SetB L b (MapP enc dec (fdel F k)) L']
    (h : ∀ w', StX S w0 w' L' → wpL P ops Q n rest f w') : wpL P ops Q n (⟨none, .call ⟨.builtin .delete, #[xm, xk], #[T, K']⟩, ty, pos, af, none⟩ :: rest) f w := by
  obtain ⟨o', w', hr, hp, ho⟩ := run_delF (ty := ty) (k := k) hT hk (hS.is b)
  have hfin := h w' (hS.puts hp ho)
  have hr' : (Builtin.delete_ #[T, K'] ty #[.map (some b), enc k]).run P w = .ok (.tuple #[]) w' := by
    have e : Builtin.delete_ #[T, K'] ty #[.map (some b), enc k] = Builtin.delete_ #[T, K] ty #[.map (some b), enc k] := rfl
    rw [e]; exact hr
  have hrun : (xop (ev n f) (.call ⟨.builtin .delete, #[xm, xk], #[T, K']⟩) ty).run P w = .ok (.value (.tuple #[])) w' := by
    simp [xop, execOp, resolve, hm, hx, invoke, builtin, hr']
  refine wpL_run rfl ?_
  unfold Oper.wp
  rw [mk_eval, execOp_xop, hrun]
  exact hfin
theorem srangeF (hS : StX S w0 w L) (hm : ev n f xm = .map (some b)) (hT : ∀ w, (underlying T).run P w = .ok (.map K E) w) [i : AtB L b (MapS enc dec F m c)]
    (h : ∀ bi w', StX S w0 w' (obj bi (.mapIter (some b) c ([] : List Nat).toArray c) :: L) → wpL P ops Q n rest (upd f d (.pointer (some ⟨bi, 0, none⟩))) w') : wpL P ops Q n (⟨some d, .range T xm, ty, pos, af, none⟩ :: rest) f w := by
  obtain ⟨o, hb, hM⟩ := hS.is b
  have ho := hM.obj
  subst ho
  refine sv (v := .pointer (some ⟨w.heap.size, 0, none⟩)) (w' := w.alloc (.mapIter (some b) c #[] c)) ?_ (h w.heap.size _ (hS.call1 (St.new w _)))
  have h2 : (getObj b).run P w = .ok (.map (m.map (ent enc dec)).toArray c) w := by simp only [getObj, Sem.run, hb]
  simp [Y, xop, execOp, hm, Instr.range, hT, h2, Result.andThen]
def nxtO (enc : κ → Value) (dec : ν → Value) : Option (Tri κ ν) → Array Value
  | none => #[.bool false]
  | some x => #[.bool true, enc x.1, dec x.2.1]
theorem nxtO_ok (o : Option (Tri κ ν)) : (nxtO enc dec o)[0]? = some (.bool o.isSome) := by cases o <;> rfl
theorem snextF (hS : StX S w0 w L) (hx : ev n f xi = .pointer (some ⟨bi, 0, none⟩)) {Lf : (Obj → Prop) → List Item} [i : AtB L bi (Eq (.mapIter (some b) c seen.toArray c))] [i2 : AtB L b (MapS enc dec F m c)] [j : SetA L bi Lf]
    (h : ∀ (o : Option (Tri κ ν)) w', (∀ x, o = some x → x ∈ m ∧ x.2.2 ∉ seen) → (o = none → ∀ y ∈ m, y.2.2 ∈ seen) → StX S w0 w' (Lf (Eq (.mapIter (some b) c (seen ++ (o.map (·.2.2)).toList).toArray c))) → wpL P ops Q n rest (upd f d (.tuple (nxtO enc dec o))) w') :
    wpL P ops Q n (⟨some d, .next xi false, ty, pos, af, none⟩ :: rest) f w := by
  obtain ⟨o, hb, hM⟩ := hS.is b
  have ho := hM.obj
  subst ho
  have hi := hS.at bi (o := .mapIter (some b) c seen.toArray c)
  have h1 : ∀ w1, w1.heap = w.heap → (getObj bi).run P w1 = .ok (.mapIter (some b) c seen.toArray c) w1 := fun w1 e => by simp only [getObj, Sem.run, e, hi]
  have h2 : ∀ w1, w1.heap = w.heap → (getObj b).run P w1 = .ok (.map (m.map (ent enc dec)).toArray c) w1 := fun w1 e => by simp only [getObj, Sem.run, e, hb]
  have hcl := hM.clock
  have hlast : (!seen.toArray.isEmpty && !(m.map (ent enc dec)).toArray.isEmpty && (m.map (ent enc dec)).toArray.all (fun e => decide (e.born ≥ c))) = false := by
    cases m with
    | nil => simp
    | cons x m =>
      have := hcl x (List.mem_cons_self ..)
      have hn : ¬ c ≤ x.2.2 := by omega
      simp [ent, hn]
  have hleft : (m.map (ent enc dec)).toArray.filter (fun e => !seen.toArray.contains e.born) = ((m.filter fun x => !seen.contains x.2.2).map (ent enc dec)).toArray := by
    rw [List.filter_toArray, List.filter_map]
    congr 2
    apply List.filter_congr
    intro x _
    show (!(seen.toArray.contains x.2.2)) = !seen.contains x.2.2
    rw [List.contains_toArray]
  have hG : ∀ x ∈ m.filter (fun x => !seen.contains x.2.2), x ∈ m ∧ x.2.2 ∉ seen := fun x hx => by
    obtain ⟨k1, k2⟩ := List.mem_filter.1 hx
    exact ⟨k1, by simpa using k2⟩
  have hold : ((m.filter fun x => !seen.contains x.2.2).map (ent enc dec)).toArray.filter (fun e => decide (e.born < c)) = ((m.filter fun x => !seen.contains x.2.2).map (ent enc dec)).toArray := by
    rw [List.filter_toArray]
    congr 1
    rw [List.filter_eq_self]
    intro e he
    obtain ⟨x, hx, rfl⟩ := List.mem_map.1 he
    exact decide_eq_true (hcl x (hG x hx).1)
  have hnew : ((m.filter fun x => !seen.contains x.2.2).map (ent enc dec)).toArray.filter (fun e => decide (e.born ≥ c)) = #[] := by
    rw [List.filter_toArray]
    congr 1
    rw [List.filter_eq_nil_iff]
    intro e he
    obtain ⟨x, hx, rfl⟩ := List.mem_map.1 he
    have := hcl x (hG x hx).1
    simp [ent]; omega
  generalize hGG : m.filter (fun x => !seen.contains x.2.2) = G at hG hleft hold hnew
  cases hc : G with
  | nil =>
    subst hc
    refine sv (v := .tuple (nxtO enc dec none)) (w' := w) ?_ (h none w (fun _ e => (nomatch e)) (fun _ y hy => ?_) ?_)
    · simp only [Y, xop, execOp, hx, Instr.next, Sem.run_bind, h1 w rfl, h2 w rfl, Result.andThen_ok, hlast, hleft, hold, hnew]
      simp [choose, Sem.run, Question.forced, nxtO]
    · have : y ∉ m.filter (fun x => !seen.contains x.2.2) := by rw [hGG]; exact List.not_mem_nil
      simp only [List.mem_filter, not_and] at this
      simpa using this hy
    · haveI := j.inst (Eq (.mapIter (some b) c (seen ++ []).toArray c))
      exact hS.re (b := bi) (p := Eq (.mapIter (some b) c (seen ++ []).toArray c)) ⟨_, hi, by rw [List.append_nil]⟩
  | cons g G' =>
    have hne : G ≠ [] := by rw [hc]; simp
    have hcand : (if (G.map (ent enc dec)).toArray.isEmpty = true then #[none] else #[]) ++ ((G.map (ent enc dec)).toArray ++ #[]).map some = ((G.map (ent enc dec)).map some).toArray := by
      rw [hc]; simp
    have hpick : ∃ x ∈ G, ∃ w1, w1.heap = w.heap ∧ w1.os = w.os ∧ w1.tape = w.tape ∧ w1.output = w.output ∧ ∃ q, (choose (.mapNext ((G.map (ent enc dec)).map some).toArray.size)).run P w = .ok q w1 ∧ ((G.map (ent enc dec)).map some).toArray[q]? = some (some (ent enc dec x)) := by
      have hl : ((G.map (ent enc dec)).map some).toArray.size = G.length := by simp
      have hpos : 0 < G.length := List.length_pos_iff.2 hne
      have hat : ∀ q, q < G.length → ∃ x ∈ G, ((G.map (ent enc dec)).map some).toArray[q]? = some (some (ent enc dec x)) := fun q hq => ⟨G[q], List.getElem_mem hq, by simp [hq]⟩
      by_cases hf : G.length ≤ 1
      · obtain ⟨x, hx1, hx2⟩ := hat 0 hpos
        refine ⟨x, hx1, w, rfl, rfl, rfl, rfl, 0, ?_, hx2⟩
        rw [hl, Go.run_choose_drew, if_pos (by simp [Question.forced, hf])]
      · obtain ⟨x, hx1, hx2⟩ := hat (w.tape w.drawn (.mapNext G.length) % G.length) (Nat.mod_lt _ hpos)
        refine ⟨x, hx1, w.drew, rfl, rfl, rfl, rfl, _, ?_, hx2⟩
        rw [hl, Go.run_choose_drew, if_neg (by simp [Question.forced, hf])]; rfl
    obtain ⟨x, hxG, w1, e1, e2, e3, e4, q, hq1, hq2⟩ := hpick
    have hset : (setObj bi (.mapIter (some b) c (seen ++ [x.2.2]).toArray c)).run P w1 = .ok () { w1 with heap := w1.heap.setIfInBounds bi (.mapIter (some b) c (seen ++ [x.2.2]).toArray c) } := by
      simp [setObj, Sem.run, e1, hi]
    have hlt := lt_of_heap hi
    have hput : Put bi (.mapIter (some b) c (seen ++ [x.2.2]).toArray c) w { w1 with heap := w1.heap.setIfInBounds bi (.mapIter (some b) c (seen ++ [x.2.2]).toArray c) } := by
      refine ⟨e2, e3, e4, by simp [e1], by simp [e1, hlt], fun k _ hk => ?_⟩
      show (w1.heap.setIfInBounds bi _)[k]? = _
      rw [Array.getElem?_setIfInBounds, if_neg (fun e => hk e.symm), e1]
    haveI := j.inst (Eq (.mapIter (some b) c (seen ++ ((some x).map (·.2.2)).toList).toArray c))
    refine sv (v := .tuple (nxtO enc dec (some x))) ?_ (h (some x) _ (fun y e => by cases e; exact hG x hxG) (fun e => (nomatch e)) (hS.puts (p := Eq (.mapIter (some b) c (seen ++ ((some x).map (·.2.2)).toList).toArray c)) hput (by simp)))
    simp only [Y, xop, execOp, hx, Instr.next, Sem.run_bind, h1 w rfl, h2 w rfl, Result.andThen_ok, hlast, hleft, hold, hnew, hcand, hq1, hq2, Bool.false_eq_true, if_false]
    have e9 : seen.toArray.push x.2.2 = (seen ++ [x.2.2]).toArray := by simp
    rw [show seen.toArray.push (ent enc dec x).born = (seen ++ [x.2.2]).toArray from e9]
    simp only [Sem.run_bind, hset, Result.andThen_ok]
    rfl
end
end Bx
