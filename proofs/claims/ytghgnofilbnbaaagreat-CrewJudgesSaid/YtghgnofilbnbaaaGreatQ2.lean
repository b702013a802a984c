/- Merged texts, part 2. -/
import Derived.Test.YtghgnofilbnbaaaGreatQ1
import Derived.Defers
import Derived.Recover
import Derived.Laws.StructEq
import Derived.Test.YtghgnofilbnbaaaGreatProg
import Derived.Shelf.SortM.SortNone
import Derived.Shelf.SortM.Plain
import Derived.Shelf.SlGeneric
import Derived.Ground.SlgmProg
import Derived.Laws.CopyRow
set_option linter.all false
/- part LibY -/
namespace Bx
open Go Go.RowKit
section
variable {P : Program} {ops : Array Oper} {ds : List Deferred} {Q : Exit → Act → World → Prop}
theorem oper_upP {o : Oper} (hn : noDefer o = true) {K K' : Act → World → Prop} (hK : ∀ a w, K a w → K' (wD ds a) w) {a : Act} {w : World} (h : o.wp P a w K (reD ds Q)) : o.wp P (wD ds a) w K' Q := by
  unfold Oper.wp at h ⊢
  rw [wD_eval]
  generalize (execOp a.eval o).run P w = res at h ⊢
  cases res with
  | ok x w' =>
    cases x with
    | value v => simp only [Oper.upon, wD_put] at h ⊢; exact hK _ _ h
    | skip => simp only [Oper.upon, wD_put] at h ⊢; exact hK _ _ h
    | defer d =>
      have h2 := hK _ _ h
      rw [← wD_put] at h2
      exact h2
    | enter g args =>
      refine Calls.mono h ?_
      intro e w'' he
      cases e with
      | returned v => simp only [wD_put]; exact hK _ _ he
      | panicked c => exact he
      | outgrown => obtain ⟨a2, w2, k⟩ := he; exact ⟨_, _, k⟩
    | row row args =>
      refine Rows.mono h ?_
      intro v w'' he
      simp only [wD_put]; exact hK _ _ he
    | _ => exact h.elim
  | halt x w' => cases x <;> first | exact h | exact h.elim
theorem list_upP : ∀ (l : List Oper) (a : Act) (w : World), l.all noDefer = true → wpList P ops (reD ds Q) l a w → wpList P ops Q l (wD ds a) w
  | [], _, _, _, h => h
  | o :: rest, a, w, hn, h => by
    rw [List.all_cons, Bool.and_eq_true] at hn
    unfold wpList at h ⊢
    by_cases hw : Region.wanted o (yielded ops a.tmps) = true
    · rw [if_pos hw] at h
      rw [if_pos (show Region.wanted o (yielded ops (wD ds a).tmps) = true from hw)]
      rcases h with h | h
      · exact .inl (oper_upP hn.1 (fun a w hh => list_upP rest a w hn.2 hh) h)
      · refine .inr ⟨?_, ?_⟩
        · have := h.1
          unfold Oper.asks at this ⊢
          rwa [wD_eval]
        · obtain ⟨a2, w2, k⟩ := h.2; exact ⟨_, _, k⟩
    · rw [if_neg hw] at h
      rw [if_neg (show ¬ Region.wanted o (yielded ops (wD ds a).tmps) = true from hw), wD_put]
      exact list_upP rest _ w hn.2 h
end
section
variable {P : Program} {ops : Array Oper} {Q : Exit → Act → World → Prop} {n : Nat} {f : Fr} {w : World} {ds : List Deferred} {rest : List Oper} {ty : TypeId} {pos : String} {af : Array Edge}
theorem regionD {id : Nat} {l : List Oper} (hn : l.all noDefer = true) (h : wpL P l.toArray (reD ds Q) n l f w) : (Code.region id l.toArray false).wp P Q (mkd n f ds) w := wp_region_lit (list_upP l _ w hn h)
theorem condD {c : Operand} {x y : Code} {B : Bool} (hc : ev n f c = .bool B) (ht : B = true → x.wp P Q (mkd n f ds) w) (hf : B = false → y.wp P Q (mkd n f ds) w) : (Code.cond c x y).wp P Q (mkd n f ds) w :=
  wp_cond (by rw [wD_eval, mk_eval]; exact hc) (by cases B <;> simp_all)
theorem cutD {c : Code} {l : List (Nat × Value)} (hk : Kn f l) (h : ∀ f, Kn f l → c.wp P Q (mkd n f ds) w) : c.wp P Q (mkd n f ds) w := h f hk
theorem seqDJ {x y : Code} {a : Act} (I : Fr → World → Prop) (hx : x.wp P (Exit.then (fun a w => ∃ f, a = mkd n f ds ∧ I f w) Q) a w) (hy : ∀ f w, I f w → y.wp P Q (mkd n f ds) w) : (Code.seq x y).wp P Q a w := by
  refine wp_seq (wp_mono hx ?_)
  intro e a w h
  cases e with
  | normal => obtain ⟨f, rfl, hI⟩ := h; exact hy f w hI
  | _ => exact h
/-- A region whose last operation defers a closure. -/
theorem sdefer {fx : Operand} {g : FuncId} {cl : List Value} (hf : ev n f fx = .func (.func g) #[] cl.toArray) (h : wpList P ops Q rest (mkd n f [{ target := .fn (.func g) cl.toArray, args := #[] }]) w) :
    wpL P ops Q n (⟨none, .defer ⟨.value fx, #[], #[]⟩, ty, pos, af, none⟩ :: rest) f w := by
  refine wpL_run rfl ?_
  unfold Oper.wp
  rw [mk_eval]
  simp only [execOp, resolve, Array.map_empty, hf, Deferred.ofValue, List.map_toArray, List.map_nil, Sem.run_bind, Sem.run_pure, Result.andThen_ok]
  exact h
end
section
variable {P : Program} {ops : Array Oper} {ds : List Deferred} {Q : Exit → Act → World → Prop}
theorem any_upP {md : Region.Mode} (hn : ops.toList.all noDefer = true) : ∀ (fuel : Nat) (listed : Array Bool) (a : Act) (w : World), wpAny P md ops (reD ds Q) fuel listed a w → wpAny P md ops Q fuel listed (wD ds a) w
  | 0, _, _, _, h => h
  | fuel + 1, listed, a, w, h => by
    refine ⟨h.1, fun i hi => ?_⟩
    have h1 := h.2 i hi
    unfold wpOp at h1 ⊢
    cases ho : ops[i]? with
    | none => simp only [ho] at h1 ⊢; exact any_upP hn fuel _ a w h1
    | some o =>
      simp only [ho] at h1 ⊢
      have hno2 : noDefer o = true := List.all_eq_true.1 hn o (List.mem_of_getElem? (by simpa using ho))
      by_cases hw : Region.wanted o (yielded ops a.tmps) = true
      · rw [if_pos hw] at h1
        rw [if_pos (show Region.wanted o (yielded ops (wD ds a).tmps) = true from hw)]
        rcases h1 with h1 | h1
        · exact .inl (oper_upP hno2 (fun a w hh => any_upP hn fuel _ a w hh) h1)
        · refine .inr ⟨?_, ?_⟩
          · have := h1.1
            unfold Oper.asks at this ⊢
            rwa [wD_eval]
          · obtain ⟨a2, w2, k⟩ := h1.2; exact ⟨_, _, k⟩
      · rw [if_neg hw] at h1
        rw [if_neg (show ¬ Region.wanted o (yielded ops (wD ds a).tmps) = true from hw), wD_put]
        exact any_upP hn fuel _ _ w h1
end
section
variable {P : Program} {ops : Array Oper} {Q : Exit → Act → World → Prop} {n : Nat} {f : Fr} {w : World} {ds : List Deferred} {rest : List Oper} {ty : TypeId} {pos : String} {af : Array Edge}
theorem drawD {id : Nat} {l : List Oper} (hm : P.follows .mixedOrders = true) (hn : l.all noDefer = true) (h : wpAny P .any l.toArray (reD ds Q) l.toArray.size (Array.replicate l.toArray.size false) (mk n f) { w with drawn := w.drawn + 1 }) : (Code.region id l.toArray true).wp P Q (mkd n f ds) w :=
  wp_region_any hm (any_upP (by simpa using hn) _ _ _ _ h)
theorem region_drawD {S : List Nat} {w0 : World} {L : List Item} {id : Nat} {l : List Oper} (hm : P.follows .mixedOrders = true) (hB : Region.lexB .any l.toArray = true) (hn : l.all noDefer = true) (hS : StX S w0 w L)
    (h : wpQ P l.toArray S w0 L (fun a => ∀ w', StX S w0 w' L → reD ds Q .normal a w') n l f) : (Code.region id l.toArray true).wp P Q (mkd n f ds) w := by
  refine drawD hm hn ?_
  simp only [Region.lexB, Bool.and_eq_true] at hB
  have h1 := wpAnyQ_lex (P := P) (C := fun w => StX S w0 w L) (md := .any) hB.1 l.toArray.toList 0 (Array.replicate l.toArray.size false) (mk n f) (by simp) (by simpa using hB.2) h
  have h2 := wpAny_of_quiet (P := P) (Q' := reD ds Q) (fun a' w' hw' (h : ∀ w', StX S w0 w' L → reD ds Q .normal a' w') => h w' hw') _ _ (mk n f) { w with drawn := w.drawn + 1 } (hS.step (ext_drew w)) h1
  simpa using h2
theorem region_tailD {S : List Nat} {w0 : World} {L : List Item} {id : Nat} {l : List Oper} (hm : P.follows .mixedOrders = true) (m : Nat) (hB : tailB l.toArray m = true) (hn : l.all noDefer = true) (hS : StX S w0 w L)
    (h : wpQ P (headOf l.toArray m) S w0 L (fun a => ∀ w', StX S w0 w' L → wpList P l.toArray (reD ds Q) (l.drop m) a w') n (l.take m) f) : (Code.region id l.toArray true).wp P Q (mkd n f ds) w := by
  refine drawD hm hn ?_
  simp only [tailB, Bool.and_eq_true, decide_eq_true_eq] at hB
  obtain ⟨⟨⟨⟨⟨hb, hs⟩, hc⟩, hm'⟩, hq⟩, hl⟩ := hB
  simp only [Region.lexB, Bool.and_eq_true] at hl
  have h1 := wpAnyQ_lex (P := P) (C := fun w => StX S w0 w L) (md := .any) hl.1 (l.toArray.toList.take m) 0 (Array.replicate (headOf l.toArray m).size false) (mk n f) (by simp [headOf]) (by simpa [headOf] using hl.2) h
  have h2 := wpAny_of_quiet (P := P) (Q' := headPost P l.toArray (reD ds Q) m) (fun a' w' hw' (h : ∀ w', StX S w0 w' L → wpList P l.toArray (reD ds Q) (l.toArray.toList.drop m) a' w') => h w' hw') _ _ (mk n f) { w with drawn := w.drawn + 1 } (hS.step (ext_drew w)) h1
  have hsz : (headOf l.toArray m).size = m := by simp [headOf] at *; omega
  have hlen : (l.toArray.toList.take m).length = m := by simp at *; omega
  rw [hsz, hlen] at h2
  have e : Array.replicate m false ++ Array.replicate (l.toArray.size - m) false = Array.replicate l.toArray.size false := by
    rw [Array.replicate_append_replicate, show m + (l.toArray.size - m) = l.toArray.size by omega]
  have inv : HeadInv .any l.toArray m (Array.replicate m false ++ Array.replicate (l.toArray.size - m) false) := by
    rw [e]
    refine ⟨by simp, fun j oj _ hl => ?_, fun t _ h2 => by simp only [List.size_toArray] at h2; simp [h2]⟩
    rw [getD_replicate_false] at hl
    cases hl
  have h3 := wpAny_head (P := P) (Q := reD ds Q) hb hs hc hm' hq m (Array.replicate m false) (mk n f) { w with drawn := w.drawn + 1 } (by simp) inv h2
  rw [show m + (l.toArray.size - m) = l.toArray.size by omega, e] at h3
  exact h3
theorem region_mixD {S : List Nat} {w0 : World} {L : List Item} {id : Nat} {l : List Oper} (C : World → Prop) (m : Nat) (hm : P.follows .mixedOrders = true) (hn : l.all noDefer = true) (hS : StX S w0 w L)
    (h : ∀ w, StX S w0 w L → wpA P l.toArray (reD ds Q) C m l.length (Array.replicate l.length false) n f w) : (Code.region id l.toArray true).wp P Q (mkd n f ds) w := by
  refine drawD hm hn ?_
  have := wpAny_of_AC (C := C) (m := m) _ _ _ _ (h _ (hS.step (ext_drew w)))
  simpa using this
/-! ### entering; leaving by a panic -/
theorem ini_get {l : List Value} {t : Nat} {v : Value} (h : l[t]? = some v) : ini l t = v := by simp [ini, List.getD, h]
theorem enter_acts (n : Nat) (fn : Func) (args : List Value) (hn : fn.ntmps = n) (hl : args.length ≤ n) : ({ tmps := args.toArray ++ Array.replicate (fn.ntmps - args.toArray.size) undef, defers := [] } : Act) = mk n (ini args) := by
  simp only [mk, Act.mk.injEq, and_true]
  apply Array.ext_getElem?
  intro t
  rw [hn]
  simp only [Array.getElem?_append, List.size_toArray, List.getElem?_toArray, Array.getElem?_replicate, List.getElem?_map]
  have hi : ini args t = args.getD t undef := rfl
  by_cases h1 : t < args.length
  · simp [h1, hi, show t < n by omega, List.getD]
  · by_cases h2 : t < n
    · simp [h1, h2, hi, List.getD, show t - args.length < n - args.length by omega]
    · simp [h1, h2, show ¬ t - args.length < n - args.length by omega]
/-- Enter a function that may end by a panic. -/
theorem enterE {g : FuncId} {fn : Func} {c : Code} {args : List Value} {R : Ending → World → Prop} (hf : P.funcs[g]? = some fn) (hb : fn.body = some c) (hn : fn.ntmps = n) (hl : Nat.ble args.length n = true)
    (h : c.wp P (bodyPost P fn R) (mk n (ini args)) w) : Calls P g args.toArray w R := by
  rw [Nat.ble_eq] at hl
  refine calls_of_wp hf hb ?_
  rw [enter_acts n fn args hn hl]
  exact h
/-- Enter a function that defers. -/
theorem enterD {g : FuncId} {fn : Func} {c : Code} {args : List Value} {R : Ending → World → Prop} (hf : P.funcs[g]? = some fn) (hb : fn.body = some c) (hn : fn.ntmps = n) (hl : Nat.ble args.length n = true)
    (h : c.wp P (bodyPostD P fn R) (mk n (ini args)) w) : Calls P g args.toArray w R := by
  rw [Nat.ble_eq] at hl
  refine calls_of_wp_defers hf hb ?_
  rw [enter_acts n fn args hn hl]
  exact h
/-- What a panic with a number of a type holds. -/
abbrev pE (T : TypeId) (e : Int) : List PanicEntry := [{ v := .iface T (.int .i64 e), recovered := false }]
/-- The contract of a demand: it returns if so, and panics else. -/
def Dem (P : Program) (g : FuncId) (T : TypeId) : Prop := ∀ (b : Bool) (e : Int) (w : World), Calls P g #[.bool b, .int .i64 e] w fun en w' => (b = true ∧ en = .returned (.tuple #[]) ∧ Ext w w') ∨ (b = false ∧ en = .panicked (pE T e) ∧ Ext w w')
theorem sdem {g : FuncId} {T : TypeId} {xb xe : Operand} {ts : Array TypeId} {B : Bool} {e : Int} {d : Nat} (hD : Dem P g T) (hc : ∀ ars w, (callFunc g ars).run P w = .ok (.enter g ars) w) (hb : ev n f xb = .bool B) (he : ev n f xe = .int .i64 e)
    (hp : B = false → ∀ w', Ext w w' → Q (.panic (pE T e)) (mk n f) w') (hn : B = true → ∀ w', Ext w w' → wpL P ops Q n rest (upd f d (.tuple #[])) w') : wpL P ops Q n (⟨some d, .call ⟨.value (.func g), #[xb, xe], ts⟩, ty, pos, af, none⟩ :: rest) f w := by
  refine wpL_run rfl ?_
  unfold Oper.wp
  have hx : (xop (ev n f) (.call ⟨.value (.func g), #[xb, xe], ts⟩) ty).run P w = .ok (.enter g #[.bool B, .int .i64 e]) w := by
    have := enterF (P := P) (f := f) (n := n) (w := w) (ty := ty) (ts := ts) hc (Evs.cons hb (Evs.cons he Evs.nil))
    exact this
  rw [mk_eval, execOp_xop, hx]
  refine Calls.mono (hD B e w) ?_
  rintro en w' (⟨h1, rfl, h2⟩ | ⟨h1, rfl, h2⟩)
  · show wpList P ops Q rest ((mk n f).put (some d) (.tuple #[])) w'
    rw [mk_put]
    exact hn h1 w' h2
  · exact hp h1 w' h2
/-- A call that may end by a panic. -/
theorem scallP {g : FuncId} {xs : List Operand} {ts : Array TypeId} {vs : List Value} {d : Nat} {R : Value → World → Prop} {Rp : List PanicEntry → World → Prop} (hc : ∀ ars w, (callFunc g ars).run P w = .ok (.enter g ars) w) (ha : Evs (ev n f) xs vs)
    (hC : Calls P g vs.toArray w fun e w' => (∃ v, e = .returned v ∧ R v w') ∨ ∃ c, e = .panicked c ∧ Rp c w')
    (hp : ∀ c w', Rp c w' → Q (.panic c) (mk n f) w') (hn : ∀ v w', R v w' → wpL P ops Q n rest (upd f d v) w') : wpL P ops Q n (⟨some d, .call ⟨.value (.func g), xs.toArray, ts⟩, ty, pos, af, none⟩ :: rest) f w := by
  refine wpL_run rfl ?_
  unfold Oper.wp
  rw [mk_eval, execOp_xop, enterF hc ha]
  refine Calls.mono hC ?_
  rintro en w' (⟨v, rfl, h2⟩ | ⟨c, rfl, h2⟩)
  · show wpList P ops Q rest ((mk n f).put (some d) v) w'
    rw [mk_put]
    exact hn v w' h2
  · exact hp c w' h2
end
theorem cutCX {P : Program} {Q : Exit → Act → World → Prop} {n : Nat} {f : Fr} {w : World} {ds : List Deferred} {r : Option Nat} {c : Code} {l : List (Nat × Value)} (hk : Kn f l) (h : ∀ f, Kn f l → c.wpIn (FX r) 0 P Q (mkd n f ds) w) : c.wpIn (FX r) 0 P Q (mkd n f ds) w := h f hk
end Bx

/- part P1 -/
/- Plain laws on names. -/
namespace Bx
/-- The byte at i may stand there in a name. -/
def okAt (s : ByteArray) (i : Nat) : Prop := ∀ h : i < s.size, (97 ≤ s[i].toNat ∧ s[i].toNat ≤ 122) ∨ (0 < i ∧ (s[i].toNat = 45 ∨ 48 ≤ s[i].toNat ∧ s[i].toNat ≤ 57))
instance (s : ByteArray) (i : Nat) : Decidable (okAt s i) := by unfold okAt; infer_instance
def isName (s : ByteArray) : Bool := decide (1 ≤ s.size ∧ s.size ≤ 24 ∧ ∀ i, i < s.size → okAt s i)
theorem okAt_of (s : ByteArray) (i : Nat) (h : i < s.size) : okAt s i ↔ (97 ≤ s[i].toNat ∧ s[i].toNat ≤ 122) ∨ (0 < i ∧ (s[i].toNat = 45 ∨ 48 ≤ s[i].toNat ∧ s[i].toNat ≤ 57)) := ⟨fun k => k h, fun k _ => k⟩
theorem isName_bad (s : ByteArray) (k : Nat) (h : k < s.size) (hb : ¬ okAt s k) : isName s = false := by
  unfold isName
  rw [decide_eq_false_iff_not]
  exact fun ⟨_, _, h3⟩ => hb (h3 k h)
theorem isName_size (s : ByteArray) (h : ¬ (1 ≤ (s.size : Int) ∧ (s.size : Int) ≤ 24)) : isName s = false := by
  unfold isName
  rw [decide_eq_false_iff_not]
  exact fun ⟨h1, h2, _⟩ => h (by omega)
theorem isName_good (s : ByteArray) (h1 : 1 ≤ (s.size : Int)) (h2 : (s.size : Int) ≤ 24) (h : ∀ i, i < s.size → okAt s i) : isName s = true := by
  unfold isName
  rw [decide_eq_true_eq]
  exact ⟨by omega, by omega, h⟩
theorem isName_end (s : ByteArray) (h : ∀ i, i < s.size → okAt s i) : isName s = (decide (s ≠ ⟨#[]⟩) && decide ((s.size : Int) ≤ 24)) := by
  have e : s ≠ ⟨#[]⟩ ↔ 1 ≤ s.size := by
    constructor
    · intro hn
      rcases Nat.eq_zero_or_pos s.size with h0 | h0
      · exact absurd (ByteArray.ext (Array.eq_empty_of_size_eq_zero h0)) hn
      · exact h0
    · rintro h1 rfl
      exact absurd h1 (by decide)
  unfold isName
  rw [Bool.eq_iff_iff]
  simp only [decide_eq_true_eq, Bool.and_eq_true, e]
  constructor
  · rintro ⟨h1, h2, _⟩
    exact ⟨h1, by omega⟩
  · rintro ⟨h1, h2⟩
    exact ⟨h1, by omega, h⟩
end Bx

/- part TypesC -/
namespace Go.Proofs.YtghgnofilbnbaaaGreat
open Go Bx
variable {ρ : Operand → Value} {w : World} {ty : TypeId}
theorem mixed : Tryz.prog.follows .mixedOrders = true := by kernel_rfl
theorem fa26_0 {x : Operand} {b o : Nat} (hx : ρ x = .pointer (some ⟨b, o, none⟩)) : Y Tryz.prog ρ (.fieldAddr 26 x 0) ty w (.pointer (some ⟨b, o + 0, none⟩)) w := yFA hx Tryz.runUnderlying26 rfl rfl Tryz.sizeOf22 (by decide)
theorem fa26_1 {x : Operand} {b o : Nat} (hx : ρ x = .pointer (some ⟨b, o, none⟩)) : Y Tryz.prog ρ (.fieldAddr 26 x 1) ty w (.pointer (some ⟨b, o + 1, none⟩)) w := yFA hx Tryz.runUnderlying26 rfl rfl Tryz.sizeOf23 (by decide)
theorem fa26_2 {x : Operand} {b o : Nat} (hx : ρ x = .pointer (some ⟨b, o, none⟩)) : Y Tryz.prog ρ (.fieldAddr 26 x 2) ty w (.pointer (some ⟨b, o + 2, none⟩)) w := yFA hx Tryz.runUnderlying26 rfl rfl Tryz.sizeOf24 (by decide)
theorem pl26 : Places Tryz.prog 26 #[(0, 1), (1, 1), (2, 1)] := ⟨_, Tryz.underlying26, fun w => by simp [Tryz.sizeOf22, Tryz.sizeOf23, Tryz.sizeOf24]⟩
theorem fa45_0 {x : Operand} {b o : Nat} (hx : ρ x = .pointer (some ⟨b, o, none⟩)) : Y Tryz.prog ρ (.fieldAddr 45 x 0) ty w (.pointer (some ⟨b, o + 0, none⟩)) w := yFA hx Tryz.runUnderlying45 rfl rfl Tryz.sizeOf9 (by decide)
theorem fa45_1 {x : Operand} {b o : Nat} (hx : ρ x = .pointer (some ⟨b, o, none⟩)) : Y Tryz.prog ρ (.fieldAddr 45 x 1) ty w (.pointer (some ⟨b, o + 1, none⟩)) w := yFA hx Tryz.runUnderlying45 rfl rfl Tryz.sizeOf43 (by decide)
theorem pl45 : Places Tryz.prog 45 #[(0, 1), (1, 1)] := ⟨_, Tryz.underlying45, fun w => by simp [Tryz.sizeOf9, Tryz.sizeOf43]⟩
theorem fa47_0 {x : Operand} {b o : Nat} (hx : ρ x = .pointer (some ⟨b, o, none⟩)) : Y Tryz.prog ρ (.fieldAddr 47 x 0) ty w (.pointer (some ⟨b, o + 0, none⟩)) w := yFA hx Tryz.runUnderlying47 rfl rfl Tryz.sizeOf45 (by decide)
theorem fa47_1 {x : Operand} {b o : Nat} (hx : ρ x = .pointer (some ⟨b, o, none⟩)) : Y Tryz.prog ρ (.fieldAddr 47 x 1) ty w (.pointer (some ⟨b, o + 2, none⟩)) w := yFA hx Tryz.runUnderlying47 rfl rfl Tryz.sizeOf3 (by decide)
theorem fa47_2 {x : Operand} {b o : Nat} (hx : ρ x = .pointer (some ⟨b, o, none⟩)) : Y Tryz.prog ρ (.fieldAddr 47 x 2) ty w (.pointer (some ⟨b, o + 3, none⟩)) w := yFA hx Tryz.runUnderlying47 rfl rfl Tryz.sizeOf27 (by decide)
theorem pl47 : Places Tryz.prog 47 #[(0, 2), (2, 1), (3, 1)] := ⟨_, Tryz.underlying47, fun w => by simp [Tryz.sizeOf3, Tryz.sizeOf27, Tryz.sizeOf45]⟩
theorem fa52_0 {x : Operand} {b o : Nat} (hx : ρ x = .pointer (some ⟨b, o, none⟩)) : Y Tryz.prog ρ (.fieldAddr 52 x 0) ty w (.pointer (some ⟨b, o + 0, none⟩)) w := yFA hx Tryz.runUnderlying52 rfl rfl Tryz.sizeOf29 (by decide)
theorem fa52_1 {x : Operand} {b o : Nat} (hx : ρ x = .pointer (some ⟨b, o, none⟩)) : Y Tryz.prog ρ (.fieldAddr 52 x 1) ty w (.pointer (some ⟨b, o + 1, none⟩)) w := yFA hx Tryz.runUnderlying52 rfl rfl Tryz.sizeOf3 (by decide)
theorem pl52 : Places Tryz.prog 52 #[(0, 1), (1, 1)] := ⟨_, Tryz.underlying52, fun w => by simp [Tryz.sizeOf3, Tryz.sizeOf29]⟩
theorem fa60_0 {x : Operand} {b o : Nat} (hx : ρ x = .pointer (some ⟨b, o, none⟩)) : Y Tryz.prog ρ (.fieldAddr 60 x 0) ty w (.pointer (some ⟨b, o + 0, none⟩)) w := yFA hx Tryz.runUnderlying60 rfl rfl Tryz.sizeOf28 (by decide)
theorem fa60_1 {x : Operand} {b o : Nat} (hx : ρ x = .pointer (some ⟨b, o, none⟩)) : Y Tryz.prog ρ (.fieldAddr 60 x 1) ty w (.pointer (some ⟨b, o + 1, none⟩)) w := yFA hx Tryz.runUnderlying60 rfl rfl Tryz.sizeOf58 (by decide)
theorem fa60_2 {x : Operand} {b o : Nat} (hx : ρ x = .pointer (some ⟨b, o, none⟩)) : Y Tryz.prog ρ (.fieldAddr 60 x 2) ty w (.pointer (some ⟨b, o + 2, none⟩)) w := yFA hx Tryz.runUnderlying60 rfl rfl Tryz.sizeOf33 (by decide)
theorem fa60_3 {x : Operand} {b o : Nat} (hx : ρ x = .pointer (some ⟨b, o, none⟩)) : Y Tryz.prog ρ (.fieldAddr 60 x 3) ty w (.pointer (some ⟨b, o + 3, none⟩)) w := yFA hx Tryz.runUnderlying60 rfl rfl Tryz.sizeOf37 (by decide)
theorem fa60_4 {x : Operand} {b o : Nat} (hx : ρ x = .pointer (some ⟨b, o, none⟩)) : Y Tryz.prog ρ (.fieldAddr 60 x 4) ty w (.pointer (some ⟨b, o + 4, none⟩)) w := yFA hx Tryz.runUnderlying60 rfl rfl Tryz.sizeOf3 (by decide)
theorem pl60 : Places Tryz.prog 60 #[(0, 1), (1, 1), (2, 1), (3, 1), (4, 1)] := ⟨_, Tryz.underlying60, fun w => by simp [Tryz.sizeOf3, Tryz.sizeOf28, Tryz.sizeOf33, Tryz.sizeOf37, Tryz.sizeOf58]⟩
theorem fa64_0 {x : Operand} {b o : Nat} (hx : ρ x = .pointer (some ⟨b, o, none⟩)) : Y Tryz.prog ρ (.fieldAddr 64 x 0) ty w (.pointer (some ⟨b, o + 0, none⟩)) w := yFA hx Tryz.runUnderlying64 rfl rfl Tryz.sizeOf26 (by decide)
theorem fa64_1 {x : Operand} {b o : Nat} (hx : ρ x = .pointer (some ⟨b, o, none⟩)) : Y Tryz.prog ρ (.fieldAddr 64 x 1) ty w (.pointer (some ⟨b, o + 3, none⟩)) w := yFA hx Tryz.runUnderlying64 rfl rfl Tryz.sizeOf27 (by decide)
theorem fa64_2 {x : Operand} {b o : Nat} (hx : ρ x = .pointer (some ⟨b, o, none⟩)) : Y Tryz.prog ρ (.fieldAddr 64 x 2) ty w (.pointer (some ⟨b, o + 4, none⟩)) w := yFA hx Tryz.runUnderlying64 rfl rfl Tryz.sizeOf3 (by decide)
theorem fa64_3 {x : Operand} {b o : Nat} (hx : ρ x = .pointer (some ⟨b, o, none⟩)) : Y Tryz.prog ρ (.fieldAddr 64 x 3) ty w (.pointer (some ⟨b, o + 5, none⟩)) w := yFA hx Tryz.runUnderlying64 rfl rfl Tryz.sizeOf37 (by decide)
theorem fa64_4 {x : Operand} {b o : Nat} (hx : ρ x = .pointer (some ⟨b, o, none⟩)) : Y Tryz.prog ρ (.fieldAddr 64 x 4) ty w (.pointer (some ⟨b, o + 6, none⟩)) w := yFA hx Tryz.runUnderlying64 rfl rfl Tryz.sizeOf62 (by decide)
theorem fa64_5 {x : Operand} {b o : Nat} (hx : ρ x = .pointer (some ⟨b, o, none⟩)) : Y Tryz.prog ρ (.fieldAddr 64 x 5) ty w (.pointer (some ⟨b, o + 7, none⟩)) w := yFA hx Tryz.runUnderlying64 rfl rfl Tryz.sizeOf33 (by decide)
theorem pl64 : Places Tryz.prog 64 #[(0, 3), (3, 1), (4, 1), (5, 1), (6, 1), (7, 1)] := ⟨_, Tryz.underlying64, fun w => by simp [Tryz.sizeOf3, Tryz.sizeOf26, Tryz.sizeOf27, Tryz.sizeOf33, Tryz.sizeOf37, Tryz.sizeOf62]⟩
theorem fa66_0 {x : Operand} {b o : Nat} (hx : ρ x = .pointer (some ⟨b, o, none⟩)) : Y Tryz.prog ρ (.fieldAddr 66 x 0) ty w (.pointer (some ⟨b, o + 0, none⟩)) w := yFA hx Tryz.runUnderlying66 rfl rfl Tryz.sizeOf3 (by decide)
theorem fa66_1 {x : Operand} {b o : Nat} (hx : ρ x = .pointer (some ⟨b, o, none⟩)) : Y Tryz.prog ρ (.fieldAddr 66 x 1) ty w (.pointer (some ⟨b, o + 1, none⟩)) w := yFA hx Tryz.runUnderlying66 rfl rfl Tryz.sizeOf3 (by decide)
theorem fa66_2 {x : Operand} {b o : Nat} (hx : ρ x = .pointer (some ⟨b, o, none⟩)) : Y Tryz.prog ρ (.fieldAddr 66 x 2) ty w (.pointer (some ⟨b, o + 2, none⟩)) w := yFA hx Tryz.runUnderlying66 rfl rfl Tryz.sizeOf3 (by decide)
theorem fa66_3 {x : Operand} {b o : Nat} (hx : ρ x = .pointer (some ⟨b, o, none⟩)) : Y Tryz.prog ρ (.fieldAddr 66 x 3) ty w (.pointer (some ⟨b, o + 3, none⟩)) w := yFA hx Tryz.runUnderlying66 rfl rfl Tryz.sizeOf3 (by decide)
theorem fa66_4 {x : Operand} {b o : Nat} (hx : ρ x = .pointer (some ⟨b, o, none⟩)) : Y Tryz.prog ρ (.fieldAddr 66 x 4) ty w (.pointer (some ⟨b, o + 4, none⟩)) w := yFA hx Tryz.runUnderlying66 rfl rfl Tryz.sizeOf3 (by decide)
theorem pl66 : Places Tryz.prog 66 #[(0, 1), (1, 1), (2, 1), (3, 1), (4, 1)] := ⟨_, Tryz.underlying66, fun w => by simp [Tryz.sizeOf3]⟩
theorem fa78_0 {x : Operand} {b o : Nat} (hx : ρ x = .pointer (some ⟨b, o, none⟩)) : Y Tryz.prog ρ (.fieldAddr 78 x 0) ty w (.pointer (some ⟨b, o + 0, none⟩)) w := yFA hx Tryz.runUnderlying78 rfl rfl Tryz.sizeOf3 (by decide)
theorem fa78_1 {x : Operand} {b o : Nat} (hx : ρ x = .pointer (some ⟨b, o, none⟩)) : Y Tryz.prog ρ (.fieldAddr 78 x 1) ty w (.pointer (some ⟨b, o + 1, none⟩)) w := yFA hx Tryz.runUnderlying78 rfl rfl Tryz.sizeOf3 (by decide)
theorem fa78_2 {x : Operand} {b o : Nat} (hx : ρ x = .pointer (some ⟨b, o, none⟩)) : Y Tryz.prog ρ (.fieldAddr 78 x 2) ty w (.pointer (some ⟨b, o + 2, none⟩)) w := yFA hx Tryz.runUnderlying78 rfl rfl Tryz.sizeOf3 (by decide)
theorem fa78_3 {x : Operand} {b o : Nat} (hx : ρ x = .pointer (some ⟨b, o, none⟩)) : Y Tryz.prog ρ (.fieldAddr 78 x 3) ty w (.pointer (some ⟨b, o + 3, none⟩)) w := yFA hx Tryz.runUnderlying78 rfl rfl Tryz.sizeOf3 (by decide)
theorem fa78_4 {x : Operand} {b o : Nat} (hx : ρ x = .pointer (some ⟨b, o, none⟩)) : Y Tryz.prog ρ (.fieldAddr 78 x 4) ty w (.pointer (some ⟨b, o + 4, none⟩)) w := yFA hx Tryz.runUnderlying78 rfl rfl Tryz.sizeOf3 (by decide)
theorem pl78 : Places Tryz.prog 78 #[(0, 1), (1, 1), (2, 1), (3, 1), (4, 1)] := ⟨_, Tryz.underlying78, fun w => by simp [Tryz.sizeOf3]⟩
theorem fa86_0 {x : Operand} {b o : Nat} (hx : ρ x = .pointer (some ⟨b, o, none⟩)) : Y Tryz.prog ρ (.fieldAddr 86 x 0) ty w (.pointer (some ⟨b, o + 0, none⟩)) w := yFA hx Tryz.runUnderlying86 rfl rfl Tryz.sizeOf3 (by decide)
theorem fa86_1 {x : Operand} {b o : Nat} (hx : ρ x = .pointer (some ⟨b, o, none⟩)) : Y Tryz.prog ρ (.fieldAddr 86 x 1) ty w (.pointer (some ⟨b, o + 1, none⟩)) w := yFA hx Tryz.runUnderlying86 rfl rfl Tryz.sizeOf3 (by decide)
theorem fa86_2 {x : Operand} {b o : Nat} (hx : ρ x = .pointer (some ⟨b, o, none⟩)) : Y Tryz.prog ρ (.fieldAddr 86 x 2) ty w (.pointer (some ⟨b, o + 2, none⟩)) w := yFA hx Tryz.runUnderlying86 rfl rfl Tryz.sizeOf3 (by decide)
theorem fa86_3 {x : Operand} {b o : Nat} (hx : ρ x = .pointer (some ⟨b, o, none⟩)) : Y Tryz.prog ρ (.fieldAddr 86 x 3) ty w (.pointer (some ⟨b, o + 3, none⟩)) w := yFA hx Tryz.runUnderlying86 rfl rfl Tryz.sizeOf3 (by decide)
theorem fa86_4 {x : Operand} {b o : Nat} (hx : ρ x = .pointer (some ⟨b, o, none⟩)) : Y Tryz.prog ρ (.fieldAddr 86 x 4) ty w (.pointer (some ⟨b, o + 4, none⟩)) w := yFA hx Tryz.runUnderlying86 rfl rfl Tryz.sizeOf3 (by decide)
theorem fa86_5 {x : Operand} {b o : Nat} (hx : ρ x = .pointer (some ⟨b, o, none⟩)) : Y Tryz.prog ρ (.fieldAddr 86 x 5) ty w (.pointer (some ⟨b, o + 5, none⟩)) w := yFA hx Tryz.runUnderlying86 rfl rfl Tryz.sizeOf3 (by decide)
theorem pl86 : Places Tryz.prog 86 #[(0, 1), (1, 1), (2, 1), (3, 1), (4, 1), (5, 1)] := ⟨_, Tryz.underlying86, fun w => by simp [Tryz.sizeOf3]⟩
theorem fa92_0 {x : Operand} {b o : Nat} (hx : ρ x = .pointer (some ⟨b, o, none⟩)) : Y Tryz.prog ρ (.fieldAddr 92 x 0) ty w (.pointer (some ⟨b, o + 0, none⟩)) w := yFA hx Tryz.runUnderlying92 rfl rfl Tryz.sizeOf9 (by decide)
theorem fa92_1 {x : Operand} {b o : Nat} (hx : ρ x = .pointer (some ⟨b, o, none⟩)) : Y Tryz.prog ρ (.fieldAddr 92 x 1) ty w (.pointer (some ⟨b, o + 1, none⟩)) w := yFA hx Tryz.runUnderlying92 rfl rfl Tryz.sizeOf3 (by decide)
theorem fa92_2 {x : Operand} {b o : Nat} (hx : ρ x = .pointer (some ⟨b, o, none⟩)) : Y Tryz.prog ρ (.fieldAddr 92 x 2) ty w (.pointer (some ⟨b, o + 2, none⟩)) w := yFA hx Tryz.runUnderlying92 rfl rfl Tryz.sizeOf3 (by decide)
theorem fa92_3 {x : Operand} {b o : Nat} (hx : ρ x = .pointer (some ⟨b, o, none⟩)) : Y Tryz.prog ρ (.fieldAddr 92 x 3) ty w (.pointer (some ⟨b, o + 3, none⟩)) w := yFA hx Tryz.runUnderlying92 rfl rfl Tryz.sizeOf3 (by decide)
theorem fa92_4 {x : Operand} {b o : Nat} (hx : ρ x = .pointer (some ⟨b, o, none⟩)) : Y Tryz.prog ρ (.fieldAddr 92 x 4) ty w (.pointer (some ⟨b, o + 4, none⟩)) w := yFA hx Tryz.runUnderlying92 rfl rfl Tryz.sizeOf37 (by decide)
theorem fa92_5 {x : Operand} {b o : Nat} (hx : ρ x = .pointer (some ⟨b, o, none⟩)) : Y Tryz.prog ρ (.fieldAddr 92 x 5) ty w (.pointer (some ⟨b, o + 5, none⟩)) w := yFA hx Tryz.runUnderlying92 rfl rfl Tryz.sizeOf4 (by decide)
theorem pl92 : Places Tryz.prog 92 #[(0, 1), (1, 1), (2, 1), (3, 1), (4, 1), (5, 1)] := ⟨_, Tryz.underlying92, fun w => by simp [Tryz.sizeOf3, Tryz.sizeOf4, Tryz.sizeOf9, Tryz.sizeOf37]⟩
theorem fa94_0 {x : Operand} {b o : Nat} (hx : ρ x = .pointer (some ⟨b, o, none⟩)) : Y Tryz.prog ρ (.fieldAddr 94 x 0) ty w (.pointer (some ⟨b, o + 0, none⟩)) w := yFA hx Tryz.runUnderlying94 rfl rfl Tryz.sizeOf3 (by decide)
theorem fa94_1 {x : Operand} {b o : Nat} (hx : ρ x = .pointer (some ⟨b, o, none⟩)) : Y Tryz.prog ρ (.fieldAddr 94 x 1) ty w (.pointer (some ⟨b, o + 1, none⟩)) w := yFA hx Tryz.runUnderlying94 rfl rfl Tryz.sizeOf3 (by decide)
theorem pl94 : Places Tryz.prog 94 #[(0, 1), (1, 1)] := ⟨_, Tryz.underlying94, fun w => by simp [Tryz.sizeOf3]⟩
theorem fa97_0 {x : Operand} {b o : Nat} (hx : ρ x = .pointer (some ⟨b, o, none⟩)) : Y Tryz.prog ρ (.fieldAddr 97 x 0) ty w (.pointer (some ⟨b, o + 0, none⟩)) w := yFA hx Tryz.runUnderlying97 rfl rfl Tryz.sizeOf9 (by decide)
theorem fa97_1 {x : Operand} {b o : Nat} (hx : ρ x = .pointer (some ⟨b, o, none⟩)) : Y Tryz.prog ρ (.fieldAddr 97 x 1) ty w (.pointer (some ⟨b, o + 1, none⟩)) w := yFA hx Tryz.runUnderlying97 rfl rfl Tryz.sizeOf3 (by decide)
theorem fa97_2 {x : Operand} {b o : Nat} (hx : ρ x = .pointer (some ⟨b, o, none⟩)) : Y Tryz.prog ρ (.fieldAddr 97 x 2) ty w (.pointer (some ⟨b, o + 2, none⟩)) w := yFA hx Tryz.runUnderlying97 rfl rfl Tryz.sizeOf95 (by decide)
theorem pl97 : Places Tryz.prog 97 #[(0, 1), (1, 1), (2, 1)] := ⟨_, Tryz.underlying97, fun w => by simp [Tryz.sizeOf3, Tryz.sizeOf9, Tryz.sizeOf95]⟩
theorem fa103_0 {x : Operand} {b o : Nat} (hx : ρ x = .pointer (some ⟨b, o, none⟩)) : Y Tryz.prog ρ (.fieldAddr 103 x 0) ty w (.pointer (some ⟨b, o + 0, none⟩)) w := yFA hx Tryz.runUnderlying103 rfl rfl Tryz.sizeOf3 (by decide)
theorem fa103_1 {x : Operand} {b o : Nat} (hx : ρ x = .pointer (some ⟨b, o, none⟩)) : Y Tryz.prog ρ (.fieldAddr 103 x 1) ty w (.pointer (some ⟨b, o + 1, none⟩)) w := yFA hx Tryz.runUnderlying103 rfl rfl Tryz.sizeOf3 (by decide)
theorem pl103 : Places Tryz.prog 103 #[(0, 1), (1, 1)] := ⟨_, Tryz.underlying103, fun w => by simp [Tryz.sizeOf3]⟩
theorem eqIn52 {a0 b0 : Int} {a1 b1 : Int} : (Op.equalIn 10000 52 (.agg #[.int .i64 a0, .int .i64 a1]) (.agg #[.int .i64 b0, .int .i64 b1])).run Tryz.prog w = .ok (decide (a0 = b0) && decide (a1 = b1)) w := by
  have u3 := Tryz.underlying3
  have z3 := Tryz.sizeOf3
  have g3 := Tryz.isAgg3
  have u29 := Tryz.underlying29
  have z29 := Tryz.sizeOf29
  have g29 := Tryz.isAgg29
  rw [show (10000 : Nat) = 9999 + 1 from rfl, run_equalIn_agg w 9999 52 _ _ (by kernel_rfl) (by kernel_rfl)]
  simp only [Program.fieldsOf, Tryz.underlying52]
  go_simp
  by_cases h0 : a0 = b0 <;> by_cases h1 : a1 = b1 <;> simp [h0, h1]
theorem eqS52 {x y : Operand} {t : TypeId} {a0 b0 : Int} {a1 b1 : Int} (hx : ρ x = .agg #[.int .i64 a0, .int .i64 a1]) (hy : ρ y = .agg #[.int .i64 b0, .int .i64 b1]) : Y Tryz.prog ρ (.binOp .eql 52 x y t) ty w (.bool ((decide (a0 = b0) && decide (a1 = b1)))) w := by
  have hg := run_eqGuard_agg (P := Tryz.prog) w .eql 52 x y #[.int .i64 a0, .int .i64 a1] #[.int .i64 b0, .int .i64 b1] (by kernel_rfl)
  have he := run_eql_struct (P := Tryz.prog) w 52 #[.int .i64 a0, .int .i64 a1] #[.int .i64 b0, .int .i64 b1]
  rw [eqIn52] at he
  simp only [Result.andThen_ok] at he
  simp [Y, xop, execOp, hx, hy, hg, he]
theorem neS52 {x y : Operand} {t : TypeId} {a0 b0 : Int} {a1 b1 : Int} (hx : ρ x = .agg #[.int .i64 a0, .int .i64 a1]) (hy : ρ y = .agg #[.int .i64 b0, .int .i64 b1]) : Y Tryz.prog ρ (.binOp .neq 52 x y t) ty w (.bool (!(decide (a0 = b0) && decide (a1 = b1)))) w := by
  have hg := run_eqGuard_agg (P := Tryz.prog) w .neq 52 x y #[.int .i64 a0, .int .i64 a1] #[.int .i64 b0, .int .i64 b1] (by kernel_rfl)
  have he := run_neq_struct (P := Tryz.prog) w 52 #[.int .i64 a0, .int .i64 a1] #[.int .i64 b0, .int .i64 b1]
  rw [eqIn52] at he
  simp only [Result.andThen_ok] at he
  simp [Y, xop, execOp, hx, hy, hg, he]
theorem eqIn66 {a0 b0 : Int} {a1 b1 : Int} {a2 b2 : Int} {a3 b3 : Int} {a4 b4 : Int} : (Op.equalIn 10000 66 (.agg #[.int .i64 a0, .int .i64 a1, .int .i64 a2, .int .i64 a3, .int .i64 a4]) (.agg #[.int .i64 b0, .int .i64 b1, .int .i64 b2, .int .i64 b3, .int .i64 b4])).run Tryz.prog w = .ok (decide (a0 = b0) && decide (a1 = b1) && decide (a2 = b2) && decide (a3 = b3) && decide (a4 = b4)) w := by
  have u3 := Tryz.underlying3
  have z3 := Tryz.sizeOf3
  have g3 := Tryz.isAgg3
  rw [show (10000 : Nat) = 9999 + 1 from rfl, run_equalIn_agg w 9999 66 _ _ (by kernel_rfl) (by kernel_rfl)]
  simp only [Program.fieldsOf, Tryz.underlying66]
  go_simp
  by_cases h0 : a0 = b0 <;> by_cases h1 : a1 = b1 <;> by_cases h2 : a2 = b2 <;> by_cases h3 : a3 = b3 <;> by_cases h4 : a4 = b4 <;> simp [h0, h1, h2, h3, h4]
theorem eqS66 {x y : Operand} {t : TypeId} {a0 b0 : Int} {a1 b1 : Int} {a2 b2 : Int} {a3 b3 : Int} {a4 b4 : Int} (hx : ρ x = .agg #[.int .i64 a0, .int .i64 a1, .int .i64 a2, .int .i64 a3, .int .i64 a4]) (hy : ρ y = .agg #[.int .i64 b0, .int .i64 b1, .int .i64 b2, .int .i64 b3, .int .i64 b4]) : Y Tryz.prog ρ (.binOp .eql 66 x y t) ty w (.bool ((decide (a0 = b0) && decide (a1 = b1) && decide (a2 = b2) && decide (a3 = b3) && decide (a4 = b4)))) w := by
  have hg := run_eqGuard_agg (P := Tryz.prog) w .eql 66 x y #[.int .i64 a0, .int .i64 a1, .int .i64 a2, .int .i64 a3, .int .i64 a4] #[.int .i64 b0, .int .i64 b1, .int .i64 b2, .int .i64 b3, .int .i64 b4] (by kernel_rfl)
  have he := run_eql_struct (P := Tryz.prog) w 66 #[.int .i64 a0, .int .i64 a1, .int .i64 a2, .int .i64 a3, .int .i64 a4] #[.int .i64 b0, .int .i64 b1, .int .i64 b2, .int .i64 b3, .int .i64 b4]
  rw [eqIn66] at he
  simp only [Result.andThen_ok] at he
  simp [Y, xop, execOp, hx, hy, hg, he]
theorem neS66 {x y : Operand} {t : TypeId} {a0 b0 : Int} {a1 b1 : Int} {a2 b2 : Int} {a3 b3 : Int} {a4 b4 : Int} (hx : ρ x = .agg #[.int .i64 a0, .int .i64 a1, .int .i64 a2, .int .i64 a3, .int .i64 a4]) (hy : ρ y = .agg #[.int .i64 b0, .int .i64 b1, .int .i64 b2, .int .i64 b3, .int .i64 b4]) : Y Tryz.prog ρ (.binOp .neq 66 x y t) ty w (.bool (!(decide (a0 = b0) && decide (a1 = b1) && decide (a2 = b2) && decide (a3 = b3) && decide (a4 = b4)))) w := by
  have hg := run_eqGuard_agg (P := Tryz.prog) w .neq 66 x y #[.int .i64 a0, .int .i64 a1, .int .i64 a2, .int .i64 a3, .int .i64 a4] #[.int .i64 b0, .int .i64 b1, .int .i64 b2, .int .i64 b3, .int .i64 b4] (by kernel_rfl)
  have he := run_neq_struct (P := Tryz.prog) w 66 #[.int .i64 a0, .int .i64 a1, .int .i64 a2, .int .i64 a3, .int .i64 a4] #[.int .i64 b0, .int .i64 b1, .int .i64 b2, .int .i64 b3, .int .i64 b4]
  rw [eqIn66] at he
  simp only [Result.andThen_ok] at he
  simp [Y, xop, execOp, hx, hy, hg, he]
theorem ti3 : Tryz.prog.info? 3 = some Tryz.t3 := by kernel_rfl
theorem ti4 : Tryz.prog.info? 4 = some Tryz.t4 := by kernel_rfl
theorem ti29 : Tryz.prog.info? 29 = some Tryz.t29 := by kernel_rfl
theorem ti52 : Tryz.prog.info? 52 = some Tryz.t52 := by kernel_rfl
theorem ti66 : Tryz.prog.info? 66 = some Tryz.t66 := by kernel_rfl
end Go.Proofs.YtghgnofilbnbaaaGreat
/- part Lay2 -/
namespace Go.Proofs.YtghgnofilbnbaaaGreat
open Go.Shelf
def sortInts_ren : Go.Shelf.Ren := ⟨fun | 5 => 94 | 8 => 99 | 7 => 98 | 19 => 109 | 20 => 110 | 10 => 100 | 11 => 101 | 12 => 102 | 13 => 103 | 14 => 104 | 15 => 105 | 16 => 106 | 17 => 107 | 18 => 108 | 30 => 111 | 31 => 112 | 32 => 113 | 33 => 114 | 34 => 115 | 35 => 116 | 40 => 117 | n => n, fun | 23 => 37 | 25 => 3 | 3 => 3 | 32 => 118 | 22 => 37 | 0 => 0 | 44 => 139 | 46 => 142 | 4 => 4 | 36 => 157 | 35 => 156 | 41 => 81 | 5 => 5 | 9 => 9 | 53 => 163 | 57 => 167 | 63 => 169 | 64 => 170 | n => n, fun | n => n⟩
theorem sortInts : Go.Proofs.SlLaysM.n5 Tryz.prog sortInts_ren := {
  mixed := by kernel_rfl
  f5 := ⟨Tryz.f94.name, by decide, Tryz.func94.trans (congrArg some (by kernel_rfl))⟩
  f7 := ⟨Tryz.f98.name, by decide, Tryz.func98.trans (congrArg some (by kernel_rfl))⟩
  f8 := Tryz.func99.trans (congrArg some (by kernel_rfl))
  f10 := ⟨Tryz.f100.name, by decide, Tryz.func100.trans (congrArg some (by kernel_rfl))⟩
  f11 := ⟨Tryz.f101.name, by decide, Tryz.func101.trans (congrArg some (by kernel_rfl))⟩
  f12 := ⟨Tryz.f102.name, by decide, Tryz.func102.trans (congrArg some (by kernel_rfl))⟩
  f13 := ⟨Tryz.f103.name, by decide, Tryz.func103.trans (congrArg some (by kernel_rfl))⟩
  f14 := ⟨Tryz.f104.name, by decide, Tryz.func104.trans (congrArg some (by kernel_rfl))⟩
  f15 := ⟨Tryz.f105.name, by decide, Tryz.func105.trans (congrArg some (by kernel_rfl))⟩
  f16 := ⟨Tryz.f106.name, by decide, Tryz.func106.trans (congrArg some (by kernel_rfl))⟩
  f17 := ⟨Tryz.f107.name, by decide, Tryz.func107.trans (congrArg some (by kernel_rfl))⟩
  f18 := ⟨Tryz.f108.name, by decide, Tryz.func108.trans (congrArg some (by kernel_rfl))⟩
  f19 := Tryz.func109.trans (congrArg some (by kernel_rfl))
  f20 := Tryz.func110.trans (congrArg some (by kernel_rfl))
  f30 := ⟨Tryz.f111.name, by decide, Tryz.func111.trans (congrArg some (by kernel_rfl))⟩
  f31 := Tryz.func112.trans (congrArg some (by kernel_rfl))
  f32 := Tryz.func113.trans (congrArg some (by kernel_rfl))
  f33 := ⟨Tryz.f114.name, by decide, Tryz.func114.trans (congrArg some (by kernel_rfl))⟩
  f34 := ⟨Tryz.f115.name, by decide, Tryz.func115.trans (congrArg some (by kernel_rfl))⟩
  f35 := ⟨Tryz.f116.name, by decide, Tryz.func116.trans (congrArg some (by kernel_rfl))⟩
  f40 := ⟨Tryz.f117.name, by decide, Tryz.func117.trans (congrArg some (by kernel_rfl))⟩
  t0 := Tryz.underlying0
  a0 := Tryz.isAgg0
  z0 := Tryz.sizeOf0
  v0 := Tryz.zeroValue0
  t3 := Tryz.underlying3
  a3 := Tryz.isAgg3
  z3 := Tryz.sizeOf3
  v3 := Tryz.zeroValue3
  t4 := Tryz.underlying4
  a4 := Tryz.isAgg4
  z4 := Tryz.sizeOf4
  v4 := Tryz.zeroValue4
  t5 := Tryz.underlying5
  a5 := Tryz.isAgg5
  z5 := Tryz.sizeOf5
  v5 := Tryz.zeroValue5
  t9 := Tryz.underlying9
  a9 := Tryz.isAgg9
  z9 := Tryz.sizeOf9
  v9 := Tryz.zeroValue9
  t22 := Tryz.underlying37
  a22 := Tryz.isAgg37
  z22 := Tryz.sizeOf37
  v22 := Tryz.zeroValue37
  t23 := Tryz.underlying37
  a23 := Tryz.isAgg37
  z23 := Tryz.sizeOf37
  v23 := Tryz.zeroValue37
  t25 := Tryz.underlying3
  a25 := Tryz.isAgg3
  z25 := Tryz.sizeOf3
  v25 := Tryz.zeroValue3
  t32 := Tryz.underlying118
  a32 := Tryz.isAgg118
  z32 := Tryz.sizeOf118
  v32 := Tryz.zeroValue118
  t35 := Tryz.underlying156
  a35 := Tryz.isAgg156
  z35 := Tryz.sizeOf156
  v35 := Tryz.zeroValue156
  t36 := Tryz.underlying157
  a36 := Tryz.isAgg157
  z36 := Tryz.sizeOf157
  v36 := Tryz.zeroValue157
  t41 := Tryz.underlying81
  a41 := Tryz.isAgg81
  z41 := Tryz.sizeOf81
  v41 := Tryz.zeroValue81
  t44 := Tryz.underlying139
  a44 := Tryz.isAgg139
  z44 := Tryz.sizeOf139
  v44 := Tryz.zeroValue139
  t46 := Tryz.underlying142
  a46 := Tryz.isAgg142
  z46 := Tryz.sizeOf142
  v46 := Tryz.zeroValue142
  t53 := Tryz.underlying163
  a53 := Tryz.isAgg163
  z53 := Tryz.sizeOf163
  v53 := Tryz.zeroValue163
  t57 := Tryz.underlying167
  a57 := Tryz.isAgg167
  z57 := Tryz.sizeOf167
  v57 := Tryz.zeroValue167
  t63 := Tryz.underlying169
  a63 := Tryz.isAgg169
  z63 := Tryz.sizeOf169
  v63 := Tryz.zeroValue169
  t64 := Tryz.underlying170
  a64 := Tryz.isAgg170
  z64 := Tryz.sizeOf170
  v64 := Tryz.zeroValue170 }
end Go.Proofs.YtghgnofilbnbaaaGreat

/- part C1 -/
namespace Bx
open Go Go.RowKit
def Room (n bytes : Nat) : Prop := n * bytes ≤ 140737488351232
def RoomW (n bytes : Nat) : Prop := n * bytes ≤ 140737488353280
structure Spn where
  fr : Int
  un : Int
structure Opr where
  name : ByteArray
  grade : Int
  duty : List Spn
structure Knd where
  name : ByteArray
  grade : Int
  second : Int
  within : Int
  keys : List Int
  split : Bool
structure Crew where
  ops : List Opr
  keys : List ByteArray
  kinds : List Knd
def spnC (s : Spn) : List Value := [.int .i64 s.fr, .int .i64 s.un]
theorem spnC_len (s : Spn) : (spnC s).length = 2 := rfl
def RSpn (_ : World) (cs : List Value) (s : Spn) : Prop := cs = spnC s ∧ I64 s.fr ∧ I64 s.un
theorem RSpn.stays : Stays RSpn := fun _ _ _ _ _ h => h
def RNam (_ : World) (cs : List Value) (s : ByteArray) : Prop := cs = [.string s] ∧ s.size ≤ 9223372036854775807
theorem RNam.stays : Stays RNam := fun _ _ _ _ _ h => h
def ROpr (w : World) (cs : List Value) (o : Opr) : Prop := ∃ dv, cs = [.string o.name, .int .i64 o.grade, dv] ∧ o.name.size ≤ 9223372036854775807 ∧ I64 o.grade ∧ Sl w 2 RSpn dv o.duty ∧ RoomW o.duty.length 16
theorem ROpr.stays : Stays ROpr := fun _ _ _ _ e ⟨dv, h1, h2, h3, h4, h5⟩ => ⟨dv, h1, h2, h3, h4.ext RSpn.stays e, h5⟩
def RKnd (w : World) (cs : List Value) (k : Knd) : Prop := ∃ kv, cs = [.string k.name, .int .i64 k.grade, .int .i64 k.second, .int .i64 k.within, kv, .bool k.split] ∧ k.name.size ≤ 9223372036854775807 ∧ I64 k.grade ∧ I64 k.second ∧ I64 k.within ∧ Sl w 1 RInt kv k.keys ∧ Room k.keys.length 8
theorem RKnd.stays : Stays RKnd := fun _ _ _ _ e ⟨kv, h1, h2, h3, h4, h5, h6, h7⟩ => ⟨kv, h1, h2, h3, h4, h5, h6.ext RInt.stays e, h7⟩
def RCrew (w : World) (cs : List Value) (c : Crew) : Prop := ∃ ov kv nv, cs = [ov, kv, nv] ∧ Sl w 3 ROpr ov c.ops ∧ Sl w 1 RNam kv c.keys ∧ Sl w 6 RKnd nv c.kinds ∧ Room c.ops.length 48
theorem RCrew.stays : Stays RCrew := fun _ _ _ _ e ⟨ov, kv, nv, h1, h2, h3, h4, h5⟩ => ⟨ov, kv, nv, h1, h2.ext ROpr.stays e, h3.ext RNam.stays e, h4.ext RKnd.stays e, h5⟩
theorem RCrew.ext {w w' : World} {cs : List Value} {c : Crew} (h : RCrew w cs c) (e : Ext w w') : RCrew w' cs c := RCrew.stays _ _ _ _ e h
theorem ROpr.ext {w w' : World} {cs : List Value} {c : Opr} (h : ROpr w cs c) (e : Ext w w') : ROpr w' cs c := ROpr.stays _ _ _ _ e h
theorem RKnd.ext {w w' : World} {cs : List Value} {c : Knd} (h : RKnd w cs c) (e : Ext w w') : RKnd w' cs c := RKnd.stays _ _ _ _ e h
/-! ### what is wrong -/
abbrev neverB (n : Int) : Bool := outB n 0 100000
def spnBad (s : Spn) : Bool := neverB s.un || outB s.fr 0 s.un
def oprE (o : Opr) : Int := if outB o.grade 1 9 = true then 7 else if (6 : Int) < o.duty.length then 3 else if o.duty.any spnBad = true then 7 else 0
def kndR (k : Knd) : Bool := outB k.grade 1 9 || outB k.second 0 9 || outB k.within 0 1000 || (decide (k.second = 0) && decide (0 < k.within))
def kndS (k : Knd) : Bool := k.split && (decide (k.second = 0) || decide ((k.keys.length : Int) < 2))
def kndE (nk : Int) (k : Knd) : Int := if kndR k = true then 7 else if (k.keys.any fun x => outB x 0 (nk - 1)) = true then 4 else if ¬ k.keys.Nodup then 5 else if kndS k = true then 2 else 0
def namedR {α : Type} (nm : α → ByteArray) (rest : α → Int) : List α → List ByteArray → Int → Int × Int
  | [], _, _ => (0, 0)
  | x :: l, seen, i => if (!isName (nm x)) = true then (i, 6) else if memB (nm x) seen = true then (i, 5) else if rest x ≠ 0 then (i, rest x) else namedR nm rest l (seen ++ [nm x]) (i + 1)
def sizeBad (c : Crew) : Bool := outB c.ops.length 1 8 || decide ((8 : Int) < c.keys.length) || outB c.kinds.length 1 8
def checkC (c : Crew) : Int × Int × Int :=
  if sizeBad c = true then (1, 0, 3)
  else if (namedR (·.name) oprE c.ops [] 0).2 ≠ 0 then (2, namedR (·.name) oprE c.ops [] 0)
  else if (namedR id (fun _ => 0) c.keys [] 0).2 ≠ 0 then (3, namedR id (fun _ => 0) c.keys [] 0)
  else if (namedR (·.name) (kndE c.keys.length) c.kinds [] 0).2 ≠ 0 then (4, namedR (·.name) (kndE c.keys.length) c.kinds [] 0)
  else (0, 0, 0)
theorem namedR_take {α : Type} {nm : α → ByteArray} {l : List α} {k : Nat} {x : α} (h : l[k]? = some x) : (l.take (k + 1)).map nm = (l.take k).map nm ++ [nm x] := by rw [take_snoc h, List.map_append]; rfl
/-! ### sorted, compacted: whether a number stands twice -/
def compR : Int → List Int → List Int
  | _, [] => []
  | a, b :: l => if b = a then compR a l else b :: compR b l
def compL : List Int → List Int
  | [] => []
  | a :: l => a :: compR a l
theorem compR_le : ∀ (a : Int) (l : List Int), (compR a l).length ≤ l.length
  | _, [] => Nat.le_refl _
  | a, b :: l => by
    unfold compR
    split
    · have := compR_le a l; simp only [List.length_cons]; omega
    · have := compR_le b l; simp only [List.length_cons]; omega
theorem compR_full : ∀ (a : Int) (l : List Int), (a :: l).Pairwise (· ≤ ·) → ((compR a l).length < l.length ↔ ¬ (a :: l).Nodup)
  | a, [], _ => by simp [compR]
  | a, b :: l, hp => by
    have hab := (List.pairwise_cons.1 hp).1 b (List.mem_cons_self ..)
    have hb := (List.pairwise_cons.1 hp).2
    unfold compR
    by_cases h : b = a
    · subst h
      rw [if_pos rfl]
      have := compR_le b l
      constructor
      · intro _ hn; exact (List.nodup_cons.1 hn).1 (List.mem_cons_self ..)
      · intro _; simp only [List.length_cons]; omega
    · rw [if_neg h]
      have ih := compR_full b l hb
      simp only [List.length_cons]
      have hna : a ∉ b :: l := by
        intro hm
        rcases List.mem_cons.1 hm with e | hm
        · exact h e.symm
        · have := (List.pairwise_cons.1 hb).1 a hm
          omega
      rw [List.nodup_cons]
      constructor
      · rintro hlt ⟨_, hn⟩; exact ih.1 (by omega) hn
      · intro hn
        have : ¬ (b :: l).Nodup := fun k => hn ⟨hna, k⟩
        have := ih.2 this
        omega
theorem compL_full {l : List Int} (h : l.Pairwise (· ≤ ·)) : (compL l).length < l.length ↔ ¬ l.Nodup := by
  cases l with
  | nil => simp [compL]
  | cons a l => simp only [compL, List.length_cons]; rw [← compR_full a l h]; omega
abbrev sortI (l : List Int) : List Int := l.mergeSort fun x y => decide (x ≤ y)
theorem sortI_asc (l : List Int) : (sortI l).Pairwise (· ≤ ·) := by
  have h := List.pairwise_mergeSort (le := fun x y : Int => decide (x ≤ y)) (fun a b c h1 h2 => by simp only [decide_eq_true_eq] at *; omega) (fun a b => by simp only [Bool.or_eq_true, decide_eq_true_eq]; omega) l
  exact h.imp fun hh => by simpa using hh
theorem sortI_perm (l : List Int) : (sortI l).Perm l := List.mergeSort_perm _ _
theorem comp_sort (l : List Int) : (compL (sortI l)).length < l.length ↔ ¬ l.Nodup := by
  rw [← (sortI_perm l).length_eq, compL_full (sortI_asc l), (sortI_perm l).nodup_iff]
end Bx
namespace Bx
open Go Go.RowKit
theorem flatI (l : List Int) : l.flatMap encI = l.map (Value.int .i64) := by
  induction l with
  | nil => rfl
  | cons x l ih => rw [List.flatMap_cons, List.map_cons, ih]; rfl
theorem gap_outI {ks js l : List Int} {j : Nat} {x : Int} (hx : l[j]? = some x) (hne : js ≠ []) : ((ks ++ [x]) ++ (js.tail ++ [x]) ++ l.drop (j + 1)).flatMap encI = splice ((ks ++ js ++ l.drop j).flatMap encI) (ks.length * 1) [.int .i64 x] := by
  obtain ⟨y, js, rfl⟩ := List.exists_cons_of_ne_nil hne
  have hd : l.drop j = x :: l.drop (j + 1) := by
    obtain ⟨h, rfl⟩ := List.getElem?_eq_some_iff.1 hx
    exact List.drop_eq_getElem_cons h
  rw [flatI, flatI, Nat.mul_one, hd]
  unfold splice
  simp only [List.map_append, List.map_cons, List.map_nil, List.tail_cons, List.append_assoc, List.cons_append, List.nil_append, List.length_singleton]
  have e1 : (ks.map (Value.int .i64)).length = ks.length := by simp
  rw [List.take_append, List.take_of_length_le (by simp), List.length_map, Nat.sub_self, List.take_zero, List.append_nil]
  have e2 := drop_mid (ks.map (Value.int .i64)) (.int .i64 y) (js.map (Value.int .i64) ++ Value.int .i64 x :: (l.drop (j + 1)).map (Value.int .i64)) ks.length 0 e1
  rw [Nat.add_zero, List.drop_zero] at e2
  rw [e2]
theorem take_flatI (ks r : List Int) : ((ks ++ r).flatMap encI).take (ks.length * 1) = ks.flatMap encI := by
  rw [flatI, flatI, Nat.mul_one, List.map_append, List.take_append, List.take_of_length_le (by simp), List.length_map, Nat.sub_self, List.take_zero, List.append_nil]
theorem compL_one {l : List Int} (h : 0 < l.length) : compL l = l.take 1 ++ compR (l.getD (1 - 1) 0) (l.drop 1) := by
  cases l with
  | nil => cases h
  | cons a l => simp [compL]
theorem compL_short {l : List Int} (h : (l.length : Int) < 2) : compL l = l := by
  match l with
  | [] => rfl
  | [a] => rfl
  | a :: b :: l => simp at h; omega
theorem mid_last {ks js l : List Int} {j : Nat} (hl : ks.length + js.length = j) (hne : js ≠ []) (h : (ks ++ js)[j - 1]? = l[j - 1]?) : (ks ++ js ++ l.drop j)[j - 1]? = l[j - 1]? := by
  have := List.length_pos_iff.2 hne
  rw [List.getElem?_append_left (by simp; omega), h]
theorem last_in {ks js l : List Int} {j : Nat} {x : Int} (hx : l[j]? = some x) (hl : ks.length + js.length = j) : (ks ++ (js ++ [x]))[j + 1 - 1]? = l[j + 1 - 1]? := by
  rw [← List.append_assoc, List.getElem?_append_right (by simp; omega), Nat.add_sub_cancel, hx]
  simp [hl]
theorem last_out {ks js l : List Int} {j : Nat} {x : Int} (hx : l[j]? = some x) (hl : ks.length + js.length = j) (hne : js ≠ []) : ((ks ++ [x]) ++ (js.tail ++ [x]))[j + 1 - 1]? = l[j + 1 - 1]? := by
  have := List.length_pos_iff.2 hne
  rw [← List.append_assoc, List.getElem?_append_right (by simp; omega), Nat.add_sub_cancel, hx]
  simp only [List.length_append, List.length_singleton, List.length_tail]
  rw [show j - (ks.length + 1 + (js.length - 1)) = 0 by omega]
  rfl
theorem getD_of {l : List Int} {i : Nat} {x : Int} (h : l[i]? = some x) : l.getD i 0 = x := getD_hit h
end Bx

/- part LibZ -/
namespace Go.Proofs.YtghgnofilbnbaaaGreat
open Go Bx Go.Shelf Go.RowKit Go.Lib Go.Sort
theorem flat_encI (l : List Int) : l.flatMap Bx.encI = l.map (Value.int .i64) := by
  induction l with
  | nil => rfl
  | cons x l ih => rw [List.flatMap_cons, List.map_cons, ih]; rfl
theorem putI_take {cur : Array Value} {l : List Int} (h : l.length ≤ cur.size) : (Sort.putCells (Value.int .i64) 0 l.toArray cur).toList.take l.length = l.map (Value.int .i64) ∧ (Sort.putCells (Value.int .i64) 0 l.toArray cur).size = cur.size := by
  refine ⟨?_, by simp [Sort.putCells]⟩
  apply List.ext_getElem?
  intro t
  by_cases ht : t < l.length
  · rw [List.getElem?_take_of_lt ht, Array.getElem?_toList, List.getElem?_map]
    simp only [Sort.putCells, Array.getElem?_mapIdx]
    have h1 : cur[t]? = some cur[t] := Array.getElem?_eq_getElem (by omega)
    rw [h1]
    simp only [Option.map_some]
    rw [if_pos ⟨Nat.zero_le _, by simp; omega⟩, Nat.sub_zero, getElem!_pos l.toArray t (by simpa using ht), List.getElem?_eq_getElem ht]
    rfl
  · rw [List.getElem?_eq_none (by simp; omega), List.getElem?_eq_none (by simp; omega)]
theorem c_Sort {v : Value} {n : Nat} {l : List Int} {w0 : World} (hr : w0.ownsRow 0 3 1 v n (l.flatMap Bx.encI)) (hl : l.length = n) (hn : n < 4611686018427387904) :
    CE Tryz.prog 94 #[v] w0 (fun u w' => u = .tuple #[] ∧ w0.grownBy w' v.ownBlock ∧ w'.ownsRow 0 3 1 v n ((sortI l).flatMap Bx.encI)) := by
  rcases id hr.2 with ⟨rfl, rfl⟩ | ⟨gb, cap, cur, rfl, -, hg, hnc, hcap, hcs, ht⟩
  · refine Calls.mono (AnyM.slices_Sort_int_none sortInts none 0 w0) ?_
    rintro e w' ⟨rfl, rfl⟩
    obtain rfl : l = [] := List.eq_nil_of_length_eq_zero hl
    exact ⟨_, rfl, rfl, ⟨rfl, rfl, rfl, Nat.le_refl _, fun _ _ _ => rfl⟩, by rw [show sortI [] = [] from by simp [sortI]]; exact hr⟩
  · rw [Nat.mul_one] at hcs ht
    rw [flat_encI] at ht
    have hH : Holds (Value.int .i64) w0 gb 0 l.toArray := by
      intro j hj
      simp only [List.size_toArray] at hj
      have h1 : (cur.toList.take n)[j]? = (l.map (Value.int .i64))[j]? := by rw [ht]
      rw [List.getElem?_take_of_lt (by omega), Array.getElem?_toList, List.getElem?_map, List.getElem?_eq_getElem hj] at h1
      refine ⟨?_, by simp [World.frozen?, hg]⟩
      simp only [World.cell?, hg, Nat.zero_add, h1, Option.map_some]
      rw [getElem!_pos l.toArray j (by simpa using hj)]
      simp
    have h := AnyM.slices_Sort_int sortInts gb 0 cap l w0 hH (lt_of_heap hg) (by omega)
    rw [hl] at h
    refine Calls.mono h ?_
    rintro e w' ⟨rfl, m, os, rfl⟩
    have hlen : (sortI l).length = n := by rw [(sortI_perm l).length_eq, hl]
    obtain ⟨h1, h2⟩ := putI_take (cur := cur) (l := sortI l) (by omega)
    have hlt := lt_of_heap hg
    have hHp : (Sort.grow (Sort.putRow (Value.int .i64) (Sort.ahead w0 m) gb 0 (sortI l).toArray) os).heap = w0.heap.modify gb (Sort.onCells (Sort.putCells (Value.int .i64) 0 (sortI l).toArray)) ++ os := rfl
    have hsz : (w0.heap.modify gb (Sort.onCells (Sort.putCells (Value.int .i64) 0 (sortI l).toArray))).size = w0.heap.size := by simp
    refine ⟨_, rfl, rfl, ⟨rfl, rfl, rfl, ?_, ?_⟩, ⟨?_, .inr ⟨gb, cap, Sort.putCells (Value.int .i64) 0 (sortI l).toArray cur, rfl, Nat.zero_le _, ?_, hnc, hcap, ?_, ?_⟩⟩⟩
    · show w0.heap.size ≤ (Sort.grow (Sort.putRow (Value.int .i64) (Sort.ahead w0 m) gb 0 (sortI l).toArray) os).heap.size
      rw [hHp, Array.size_append, hsz]; omega
    · intro k hk hne
      show (Sort.grow (Sort.putRow (Value.int .i64) (Sort.ahead w0 m) gb 0 (sortI l).toArray) os).heap[k]? = _
      rw [hHp, Array.getElem?_append, if_pos (by rw [hsz]; exact hk), Array.getElem?_modify, if_neg (fun e => hne (by rw [e]; rfl))]
    · rw [flat_encI, List.length_map, hlen, Nat.mul_one]
    · show (Sort.grow (Sort.putRow (Value.int .i64) (Sort.ahead w0 m) gb 0 (sortI l).toArray) os).heap[gb]? = _
      rw [hHp, Array.getElem?_append, if_pos (by rw [hsz]; exact hlt), Array.getElem?_modify, if_pos rfl, hg]
      rfl
    · rw [h2, hcs, Nat.mul_one]
    · rw [Nat.mul_one, ← hlen, h1, flat_encI]
end Go.Proofs.YtghgnofilbnbaaaGreat

/- part Ck1 -/
namespace Go.Proofs.YtghgnofilbnbaaaGreat
open Go Bx
/-- barrage/crew.out -/
theorem c_out {a lo hi : Int} {w0 : World} : CV Tryz.prog 45 #[.int .i64 a, .int .i64 lo, .int .i64 hi] w0 (.bool (outB a lo hi)) := by
  refine enter Tryz.func45 rfl Tryz.ntmps45 rfl ?_
  have hS := St.start w0
  refine seq ?_
  refine region ?_
  refine sv (yAsg rfl) ?_
  refine nil ?_
  show Code.wp _ _ _ _ _
  refine seq ?_
  refine region ?_
  refine sv (yMove rfl) ?_
  refine sv (yMove rfl) ?_
  refine sv (yLss rfl rfl) ?_
  refine sv (yMove rfl) ?_
  refine sg rfl rfl rfl (fun g => (yMove rfl)) (fun v11 g11 => ?_)
  refine sg rfl rfl rfl (fun g => (yMove rfl)) (fun v12 g12 => ?_)
  refine sg rfl rfl rfl (fun g => (yGtr (g11.1 g) (g12.1 g))) (fun v13 g13 => ?_)
  refine sv (yOr rfl rfl (fun hB => (g13.1 hB))) ?_
  refine sv (yAsg rfl) ?_
  refine nil ?_
  show Code.wp _ _ _ _ _
  refine wp_ret ?_
  exact retV (res1 rfl rfl) hS.ext
/-- barrage/barrageref10.in -/
theorem c_in {a lo hi : Int} {w0 : World} : CV Tryz.prog 48 #[.int .i64 a, .int .i64 lo, .int .i64 hi] w0 (.bool (inB a lo hi)) := by
  refine enter Tryz.func48 rfl Tryz.ntmps48 rfl ?_
  have hS := St.start w0
  refine seq ?_
  refine region ?_
  refine sv (yAsg rfl) ?_
  refine nil ?_
  show Code.wp _ _ _ _ _
  refine seq ?_
  refine region ?_
  refine sv (yMove rfl) ?_
  refine sv (yMove rfl) ?_
  refine sv (yGeq rfl rfl) ?_
  refine sv (yMove rfl) ?_
  refine sg rfl rfl rfl (fun g => (yMove rfl)) (fun v11 g11 => ?_)
  refine sg rfl rfl rfl (fun g => (yMove rfl)) (fun v12 g12 => ?_)
  refine sg rfl rfl rfl (fun g => (yLeq (g11.1 g) (g12.1 g))) (fun v13 g13 => ?_)
  refine sv (yAnd rfl (fun hB => (g13.1 hB)) rfl) ?_
  refine sv (yAsg rfl) ?_
  refine nil ?_
  show Code.wp _ _ _ _ _
  refine wp_ret ?_
  exact retV (res1 rfl rfl) hS.ext
/-- barrage/tide.Name -/
theorem c_Name {s : ByteArray} {w0 : World} (hs : s.size ≤ 9223372036854775807) : CV Tryz.prog 44 #[.string s] w0 (.bool (isName s)) := by
  refine enter Tryz.func44 rfl Tryz.ntmps44 rfl ?_
  have hS := St.start w0
  refine seq ?_
  refine region ?_
  refine sv (yAsg rfl) ?_
  refine nil ?_
  show Code.wp _ _ _ _ _
  refine seq ?_
  refine seq ?_
  refine region ?_
  refine sv (yMove rfl) ?_
  refine sv (yLenS rfl Tryz.underlying9) ?_
  refine sv (yMove rfl) ?_
  refine nil ?_
  show Code.wp _ _ _ _ _
  refine block ?_
  refine loop (fun f w zz => ∃ (k : Nat), f 0 = .string s ∧ f 6 = .int .i64 (s.size : Int) ∧ f 7 = .int .i64 (k : Int) ∧ StX [] w0 w [] ∧ (k ≤ s.size) ∧ (∀ i, i < k → okAt s i) ∧ zz = s.size - k) _ ⟨_, rfl, 0, rfl, rfl, rfl, hS, (Nat.zero_le _), (fun i hi => absurd hi (Nat.not_lt_zero i)), rfl⟩ ?_
  clear hS
  rintro f w _ ⟨k, h0, h6, h7, hS, hk, hP, rfl⟩
  refine seq ?_
  refine region ?_
  refine sv (yLss h7 h6) ?_
  refine nil ?_
  show Code.wp _ _ _ _ _
  refine seq ?_
  refine cond rfl (fun c8 => ?_) (fun c8 => ?_)
  ·
    simp only [Bool.and_eq_true, Bool.or_eq_true, Bool.and_eq_false_iff, Bool.or_eq_false_iff, decide_eq_true_eq, decide_eq_false_iff_not, Bool.not_eq_true, Bool.not_eq_false, Bool.not_not, Bool.not_eq_eq_eq_not, Bool.not_true, Bool.not_false, Bool.false_eq_true, Bool.true_eq_false, ne_eq, Decidable.not_not, not_false_eq_true, not_true_eq_false] at c8
    refine skip ?_
    show Code.wp _ _ _ _ _
    refine seq ?_
    refine block ?_
    refine seq ?_
    refine region ?_
    refine sv (yMove h7) ?_
    refine sv (yAsg rfl) ?_
    refine nil ?_
    show Code.wp _ _ _ _ _
    refine seq ?_
    refine region ?_
    refine sv (yMove h0) ?_
    refine sv (yMove rfl) ?_
    refine sv (yIxS rfl rfl Tryz.underlying9 (getElem?_pos s k (by omega))) ?_
    refine sv (yAsg rfl) ?_
    refine nil ?_
    show Code.wp _ _ _ _ _
    refine block ?_
    refine seq ?_
    refine region ?_
    refine sv (yMove rfl) ?_
    refine sv (yLeq rfl rfl) ?_
    refine sv (yMove rfl) ?_
    refine sg rfl rfl rfl (fun g => (yMove rfl)) (fun v17 g17 => ?_)
    refine sg rfl rfl rfl (fun g => (yLeq (g17.1 g) rfl)) (fun v18 g18 => ?_)
    refine sv (yAnd rfl (fun hB => (g18.1 hB)) rfl) ?_
    refine sv (yAsg rfl) ?_
    refine nil ?_
    show Code.wp _ _ _ _ _
    refine cond rfl (fun c13 => ?_) (fun c13 => ?_)
    ·
      simp only [Bool.and_eq_true, Bool.or_eq_true, Bool.and_eq_false_iff, Bool.or_eq_false_iff, decide_eq_true_eq, decide_eq_false_iff_not, Bool.not_eq_true, Bool.not_eq_false, Bool.not_not, Bool.not_eq_eq_eq_not, Bool.not_true, Bool.not_false, Bool.false_eq_true, Bool.true_eq_false, ne_eq, Decidable.not_not, not_false_eq_true, not_true_eq_false] at c13
      refine skip ?_
      show Code.wp _ _ _ _ _
      refine region ?_
      refine sv (yAdd h7 rfl ⟨by omega, by omega⟩) ?_
      refine sv (yMove rfl) ?_
      refine nil ?_
      exact ⟨_, _, rfl, ⟨k + 1, h0, h6, rfl, hS, (by omega), (snoc hP ((okAt_of s k (by omega)).2 (by omega))), rfl⟩, by omega⟩
    ·
      simp only [Bool.and_eq_true, Bool.or_eq_true, Bool.and_eq_false_iff, Bool.or_eq_false_iff, decide_eq_true_eq, decide_eq_false_iff_not, Bool.not_eq_true, Bool.not_eq_false, Bool.not_not, Bool.not_eq_eq_eq_not, Bool.not_true, Bool.not_false, Bool.false_eq_true, Bool.true_eq_false, ne_eq, Decidable.not_not, not_false_eq_true, not_true_eq_false] at c13
      refine seq ?_
      refine region ?_
      refine sv (yMove rfl) ?_
      refine sv (yGtr rfl rfl) ?_
      refine sv (yMove rfl) ?_
      refine sg rfl rfl rfl (fun g => (yMove rfl)) (fun v24 g24 => ?_)
      refine sg rfl rfl rfl (fun g => (yEql (g24.1 g) rfl)) (fun v25 g25 => ?_)
      refine sg rfl rfl rfl (fun g => (yMove (g25.1 g))) (fun v26 g26 => ?_)
      refine sgg rfl rfl g26 (fun g => (yMove rfl)) (fun v27 g27 => ?_)
      refine sgg rfl rfl g26 (fun g => (yLeq rfl (g27.1 g))) (fun v28 g28 => ?_)
      refine sgg rfl rfl g26 (fun g => (yMove (g28.1 g))) (fun v29 g29 => ?_)
      refine sgg rfl rfl g29 (fun g => (yMove rfl)) (fun v30 g30 => ?_)
      refine sgg rfl rfl g29 (fun g => (yLeq (g30.1 g) rfl)) (fun v31 g31 => ?_)
      refine sgg rfl rfl g26 (fun g => (yAnd (g29.1 g) (fun hB => (g31.1 ⟨g, hB⟩)) rfl)) (fun v32 g32 => ?_)
      refine sg rfl rfl rfl (fun g => (yOr (g26.1 g) rfl (fun hB => (g32.1 ⟨g, hB⟩)))) (fun v33 g33 => ?_)
      refine sv (yAnd rfl (fun hB => (g33.1 hB)) rfl) ?_
      refine sv (yAsg rfl) ?_
      refine nil ?_
      show Code.wp _ _ _ _ _
      refine cond rfl (fun c20 => ?_) (fun c20 => ?_)
      ·
        simp only [Bool.and_eq_true, Bool.or_eq_true, Bool.and_eq_false_iff, Bool.or_eq_false_iff, decide_eq_true_eq, decide_eq_false_iff_not, Bool.not_eq_true, Bool.not_eq_false, Bool.not_not, Bool.not_eq_eq_eq_not, Bool.not_true, Bool.not_false, Bool.false_eq_true, Bool.true_eq_false, ne_eq, Decidable.not_not, not_false_eq_true, not_true_eq_false] at c20
        refine skip ?_
        show Code.wp _ _ _ _ _
        refine region ?_
        refine sv (yAdd h7 rfl ⟨by omega, by omega⟩) ?_
        refine sv (yMove rfl) ?_
        refine nil ?_
        exact ⟨_, _, rfl, ⟨k + 1, h0, h6, rfl, hS, (by omega), (snoc hP ((okAt_of s k (by omega)).2 (by omega))), rfl⟩, by omega⟩
      ·
        simp only [Bool.and_eq_true, Bool.or_eq_true, Bool.and_eq_false_iff, Bool.or_eq_false_iff, decide_eq_true_eq, decide_eq_false_iff_not, Bool.not_eq_true, Bool.not_eq_false, Bool.not_not, Bool.not_eq_eq_eq_not, Bool.not_true, Bool.not_false, Bool.false_eq_true, Bool.true_eq_false, ne_eq, Decidable.not_not, not_false_eq_true, not_true_eq_false] at c20
        refine seq ?_
        refine region ?_
        refine sv (yAsg rfl) ?_
        refine nil ?_
        show Code.wp _ _ _ _ _
        refine wp_ret (blockR (blockR (thenR (thenR (blockR (thenR ?_))))))
        exact retV (res1 rfl (by rw [isName_bad s k (by omega) (fun h => by have := (okAt_of s k (by omega)).1 h; omega)]; rfl)) hS.ext
  ·
    simp only [Bool.and_eq_true, Bool.or_eq_true, Bool.and_eq_false_iff, Bool.or_eq_false_iff, decide_eq_true_eq, decide_eq_false_iff_not, Bool.not_eq_true, Bool.not_eq_false, Bool.not_not, Bool.not_eq_eq_eq_not, Bool.not_true, Bool.not_false, Bool.false_eq_true, Bool.true_eq_false, ne_eq, Decidable.not_not, not_false_eq_true, not_true_eq_false] at c8
    refine exit ?_
    show Code.wp _ _ _ _ _
    refine seq ?_
    refine region ?_
    refine sv (yMove h0) ?_
    refine sv (ySNe rfl rfl) ?_
    refine sv (yMove rfl) ?_
    refine sg rfl rfl rfl (fun g => (yMove h0)) (fun v39 g39 => ?_)
    refine sg rfl rfl rfl (fun g => (yLenS (g39.1 g) Tryz.underlying9)) (fun v40 g40 => ?_)
    refine sg rfl rfl rfl (fun g => (yLeq (g40.1 g) rfl)) (fun v41 g41 => ?_)
    refine sv (yAnd rfl (fun hB => (g41.1 hB)) rfl) ?_
    refine sv (yAsg rfl) ?_
    refine nil ?_
    show Code.wp _ _ _ _ _
    refine wp_ret ?_
    exact retV (res1 rfl (by rw [isName_end s (fun i hi => hP i (by omega))]; rfl)) hS.ext
/-- barrage/barrageref01.in -/
theorem c_in1 {a lo hi : Int} {w0 : World} : CV Tryz.prog 75 #[.int .i64 a, .int .i64 lo, .int .i64 hi] w0 (.bool (inB a lo hi)) := by
  refine enter Tryz.func75 rfl Tryz.ntmps75 rfl ?_
  have hS := St.start w0
  refine seq ?_
  refine region ?_
  refine sv (yAsg rfl) ?_
  refine nil ?_
  show Code.wp _ _ _ _ _
  refine seq ?_
  refine region ?_
  refine sv (yMove rfl) ?_
  refine sv (yMove rfl) ?_
  refine sv (yGeq rfl rfl) ?_
  refine sv (yMove rfl) ?_
  refine sg rfl rfl rfl (fun g => (yMove rfl)) (fun v11 g11 => ?_)
  refine sg rfl rfl rfl (fun g => (yMove rfl)) (fun v12 g12 => ?_)
  refine sg rfl rfl rfl (fun g => (yLeq (g11.1 g) (g12.1 g))) (fun v13 g13 => ?_)
  refine sv (yAnd rfl (fun hB => (g13.1 hB)) rfl) ?_
  refine sv (yAsg rfl) ?_
  refine nil ?_
  show Code.wp _ _ _ _ _
  refine wp_ret ?_
  exact retV (res1 rfl rfl) hS.ext
/-- barrage/barrageref01.Name -/
theorem c_rName {s : ByteArray} {w0 : World} (hs : s.size ≤ 9223372036854775807) : CV Tryz.prog 47 #[.string s] w0 (.bool (isName s)) := by
  refine enter Tryz.func47 rfl Tryz.ntmps47 rfl ?_
  have hS := St.start w0
  refine seq ?_
  refine region ?_
  refine sv (yAsg rfl) ?_
  refine nil ?_
  show Code.wp _ _ _ _ _
  refine seq ?_
  refine seq ?_
  refine region ?_
  refine sv (yMove rfl) ?_
  refine sv (yLenS rfl Tryz.underlying9) ?_
  refine scall Tryz.call75 (.cons rfl (.cons rfl (.cons rfl .nil))) c_in1 ?_
  rintro _ w ⟨rfl, hE⟩; replace hS := hS.step hE; clear hE
  refine sv (yNot rfl) ?_
  refine nil ?_
  show Code.wp _ _ _ _ _
  refine cond rfl (fun c9 => ?_) (fun c9 => ?_)
  ·
    simp only [Bool.and_eq_true, Bool.or_eq_true, Bool.and_eq_false_iff, Bool.or_eq_false_iff, decide_eq_true_eq, decide_eq_false_iff_not, Bool.not_eq_true, Bool.not_eq_false, Bool.not_not, Bool.not_eq_eq_eq_not, Bool.not_true, Bool.not_false, Bool.false_eq_true, Bool.true_eq_false, ne_eq, Decidable.not_not, not_false_eq_true, not_true_eq_false, inB] at c9
    refine seq ?_
    refine region ?_
    refine sv (yAsg rfl) ?_
    refine nil ?_
    show Code.wp _ _ _ _ _
    refine wp_ret (thenR ?_)
    exact retV (res1 rfl (eqB (isName_size s (by omega)))) hS.ext
  ·
    simp only [Bool.and_eq_true, Bool.or_eq_true, Bool.and_eq_false_iff, Bool.or_eq_false_iff, decide_eq_true_eq, decide_eq_false_iff_not, Bool.not_eq_true, Bool.not_eq_false, Bool.not_not, Bool.not_eq_eq_eq_not, Bool.not_true, Bool.not_false, Bool.false_eq_true, Bool.true_eq_false, ne_eq, Decidable.not_not, not_false_eq_true, not_true_eq_false, inB] at c9
    refine skip ?_
    show Code.wp _ _ _ _ _
    refine seq ?_
    refine seq ?_
    refine region ?_
    refine sv (yAsg rfl) ?_
    refine nil ?_
    show Code.wp _ _ _ _ _
    refine block ?_
    refine loop (fun f w zz => ∃ (k : Nat), f 0 = .string s ∧ f 3 = .int .i64 (k : Int) ∧ StX [] w0 w [] ∧ (k ≤ s.size) ∧ (∀ i, i < k → okAt s i) ∧ zz = s.size - k) _ ⟨_, rfl, 0, rfl, rfl, hS, (Nat.zero_le _), (fun i hi => absurd hi (Nat.not_lt_zero i)), rfl⟩ ?_
    clear hS
    rintro f w _ ⟨k, h0, h3, hS, hk, hP, rfl⟩
    refine seq ?_
    refine seq ?_
    refine region ?_
    refine sv (yMove h3) ?_
    refine sv (yMove h0) ?_
    refine sv (yLenS rfl Tryz.underlying9) ?_
    refine sv (yLss rfl rfl) ?_
    refine nil ?_
    show Code.wp _ _ _ _ _
    refine cond rfl (fun c13 => ?_) (fun c13 => ?_)
    ·
      simp only [Bool.and_eq_true, Bool.or_eq_true, Bool.and_eq_false_iff, Bool.or_eq_false_iff, decide_eq_true_eq, decide_eq_false_iff_not, Bool.not_eq_true, Bool.not_eq_false, Bool.not_not, Bool.not_eq_eq_eq_not, Bool.not_true, Bool.not_false, Bool.false_eq_true, Bool.true_eq_false, ne_eq, Decidable.not_not, not_false_eq_true, not_true_eq_false] at c13
      refine skip ?_
      show Code.wp _ _ _ _ _
      refine seq ?_
      refine block ?_
      refine seq ?_
      refine region ?_
      refine sv (yMove h0) ?_
      refine sv (yMove h3) ?_
      refine sv (yIxS rfl rfl Tryz.underlying9 (getElem?_pos s k (by omega))) ?_
      refine sv (yAsg rfl) ?_
      refine nil ?_
      show Code.wp _ _ _ _ _
      refine seq ?_
      refine region ?_
      refine sv (yMove rfl) ?_
      refine sv (yGeq rfl rfl) ?_
      refine sv (yMove rfl) ?_
      refine sg rfl rfl rfl (fun g => (yMove rfl)) (fun v22 g22 => ?_)
      refine sg rfl rfl rfl (fun g => (yLeq (g22.1 g) rfl)) (fun v23 g23 => ?_)
      refine sv (yAnd rfl (fun hB => (g23.1 hB)) rfl) ?_
      refine sv (yAsg rfl) ?_
      refine nil ?_
      show Code.wp _ _ _ _ _
      refine seq ?_
      refine region ?_
      refine sv (yMove rfl) ?_
      refine sv (yNot rfl) ?_
      refine sv (yMove rfl) ?_
      refine sg rfl rfl rfl (fun g => (yMove h3)) (fun v28 g28 => ?_)
      refine sg rfl rfl rfl (fun g => (yEql (g28.1 g) rfl)) (fun v29 g29 => ?_)
      refine sg rfl rfl rfl (fun g => (yMove (g29.1 g))) (fun v30 g30 => ?_)
      refine sgg rfl rfl g30 (fun g => (yMove rfl)) (fun v31 g31 => ?_)
      refine sgg rfl rfl g30 (fun g => (yNeq (g31.1 g) rfl)) (fun v32 g32 => ?_)
      refine sgg rfl rfl g30 (fun g => (yMove (g32.1 g))) (fun v33 g33 => ?_)
      refine sgg rfl rfl g33 (fun g => (yMove rfl)) (fun v34 g34 => ?_)
      refine sgg rfl rfl g33 (fun g => (yLss (g34.1 g) rfl)) (fun v35 g35 => ?_)
      refine sgg rfl rfl g33 (fun g => (yMove (g35.1 g))) (fun v36 g36 => ?_)
      refine sgg rfl rfl g36 (fun g => (yMove rfl)) (fun v37 g37 => ?_)
      refine sgg rfl rfl g36 (fun g => (yGtr (g37.1 g) rfl)) (fun v38 g38 => ?_)
      refine sgg rfl rfl g33 (fun g => (yOr (g36.1 g) rfl (fun hB => (g38.1 ⟨g, hB⟩)))) (fun v39 g39 => ?_)
      refine sgg rfl rfl g30 (fun g => (yAnd (g33.1 g) (fun hB => (g39.1 ⟨g, hB⟩)) rfl)) (fun v40 g40 => ?_)
      refine sg rfl rfl rfl (fun g => (yOr (g30.1 g) rfl (fun hB => (g40.1 ⟨g, hB⟩)))) (fun v41 g41 => ?_)
      refine sv (yAnd rfl (fun hB => (g41.1 hB)) rfl) ?_
      refine nil ?_
      show Code.wp _ _ _ _ _
      refine cond rfl (fun c42 => ?_) (fun c42 => ?_)
      ·
        simp only [Bool.and_eq_true, Bool.or_eq_true, Bool.and_eq_false_iff, Bool.or_eq_false_iff, decide_eq_true_eq, decide_eq_false_iff_not, Bool.not_eq_true, Bool.not_eq_false, Bool.not_not, Bool.not_eq_eq_eq_not, Bool.not_true, Bool.not_false, Bool.false_eq_true, Bool.true_eq_false, ne_eq, Decidable.not_not, not_false_eq_true, not_true_eq_false] at c42
        refine seq ?_
        refine region ?_
        refine sv (yAsg rfl) ?_
        refine nil ?_
        show Code.wp _ _ _ _ _
        refine wp_ret (blockR (thenR (thenR (blockR (thenR ?_)))))
        exact retV (res1 rfl (eqB (isName_bad s k (by omega) (fun h => by have := (okAt_of s k (by omega)).1 h; omega)))) hS.ext
      ·
        simp only [Bool.and_eq_true, Bool.or_eq_true, Bool.and_eq_false_iff, Bool.or_eq_false_iff, decide_eq_true_eq, decide_eq_false_iff_not, Bool.not_eq_true, Bool.not_eq_false, Bool.not_not, Bool.not_eq_eq_eq_not, Bool.not_true, Bool.not_false, Bool.false_eq_true, Bool.true_eq_false, ne_eq, Decidable.not_not, not_false_eq_true, not_true_eq_false] at c42
        refine skip ?_
        show Code.wp _ _ _ _ _
        refine region ?_
        refine sv (yMove h3) ?_
        refine sv (yAdd rfl rfl ⟨by omega, by omega⟩) ?_
        refine sv (yAsg rfl) ?_
        refine nil ?_
        exact ⟨_, _, rfl, ⟨k + 1, h0, rfl, hS, (by omega), (snoc hP ((okAt_of s k (by omega)).2 (by omega))), rfl⟩, by omega⟩
    ·
      simp only [Bool.and_eq_true, Bool.or_eq_true, Bool.and_eq_false_iff, Bool.or_eq_false_iff, decide_eq_true_eq, decide_eq_false_iff_not, Bool.not_eq_true, Bool.not_eq_false, Bool.not_not, Bool.not_eq_eq_eq_not, Bool.not_true, Bool.not_false, Bool.false_eq_true, Bool.true_eq_false, ne_eq, Decidable.not_not, not_false_eq_true, not_true_eq_false] at c13
      refine exit ?_
      show Code.wp _ _ _ _ _
      refine seq ?_
      refine region ?_
      refine sv (yAsg rfl) ?_
      refine nil ?_
      show Code.wp _ _ _ _ _
      refine wp_ret ?_
      exact retV (res1 rfl (eqB (isName_good s (by omega) (by omega) (fun i hi => hP i (by omega))))) hS.ext
/-- barrage/crew.never -/
theorem c_never {a : Int} {w0 : World} : CV Tryz.prog 25 #[.int .i64 a] w0 (.bool (neverB a)) := by
  refine enter Tryz.func25 rfl Tryz.ntmps25 rfl ?_
  have hS := St.start w0
  refine seq ?_
  refine region ?_
  refine sv (yAsg rfl) ?_
  refine nil ?_
  show Code.wp _ _ _ _ _
  refine seq ?_
  refine region ?_
  refine sv (yMove rfl) ?_
  refine scall Tryz.call45 (.cons rfl (.cons rfl (.cons rfl .nil))) c_out ?_
  rintro _ w ⟨rfl, hE⟩; replace hS := hS.step hE; clear hE
  refine sv (yAsg rfl) ?_
  refine nil ?_
  show Code.wp _ _ _ _ _
  refine wp_ret ?_
  exact retV (res1 rfl rfl) hS.ext
/-- barrage/barrageref10.minute -/
theorem c_minute {a : Int} {w0 : World} : CV Tryz.prog 32 #[.int .i64 a] w0 (.bool (inB a 0 100000)) := by
  refine enter Tryz.func32 rfl Tryz.ntmps32 rfl ?_
  have hS := St.start w0
  refine seq ?_
  refine region ?_
  refine sv (yAsg rfl) ?_
  refine nil ?_
  show Code.wp _ _ _ _ _
  refine seq ?_
  refine region ?_
  refine sv (yMove rfl) ?_
  refine scall Tryz.call48 (.cons rfl (.cons rfl (.cons rfl .nil))) c_in ?_
  rintro _ w ⟨rfl, hE⟩; replace hS := hS.step hE; clear hE
  refine sv (yAsg rfl) ?_
  refine nil ?_
  show Code.wp _ _ _ _ _
  refine wp_ret ?_
  exact retV (res1 rfl rfl) hS.ext
/-- slices.IndexFunc   int,int  -/
theorem c_IndexFuncInt {l : List Int} {p : Int → Bool} {v : Value} {g : Nat} {cl : List Value} {w0 : World} (hsl : Sl w0 1 RInt v l) (hcall : ∀ ys w, (callFunc g ys).run Tryz.prog w = .ok (.enter g ys) w) (hp : ∀ x cs w, x ∈ l → Ext w0 w → RInt w cs x → CV Tryz.prog g (.int .i64 x :: cl).toArray w (.bool (p x))) : CV Tryz.prog 92 #[v, .func (.func g) #[] cl.toArray] w0 (.int .i64 (idxF p l 0)) := by
  obtain ⟨a, cap, rfl, hcap, hmx, hel⟩ := hsl
  refine enter Tryz.func92 rfl Tryz.ntmps92 rfl ?_
  have hS := St.start w0
  refine seq ?_
  refine region ?_
  refine sv (yAsg rfl) ?_
  refine nil ?_
  show Code.wp _ _ _ _ _
  refine seq ?_
  refine seq ?_
  refine region ?_
  refine sv (yMove rfl) ?_
  refine sv (yLen rfl Tryz.underlying37) ?_
  refine sv (yMove rfl) ?_
  refine nil ?_
  show Code.wp _ _ _ _ _
  refine block ?_
  refine loop (fun f w zz => ∃ (k : Nat), f 0 = .slice a l.length cap ∧ f 1 = .func (.func g) #[] cl.toArray ∧ f 7 = .int .i64 (l.length : Int) ∧ f 8 = .int .i64 (k : Int) ∧ StX [] w0 w [] ∧ (k ≤ l.length) ∧ (idxF p l 0 = idxF p (l.drop k) k) ∧ zz = l.length - k) _ ⟨_, rfl, 0, rfl, rfl, rfl, rfl, hS, (Nat.zero_le _), (rfl), rfl⟩ ?_
  clear hS
  rintro f w _ ⟨k, h0, h1, h7, h8, hS, hk, hI, rfl⟩
  refine seq ?_
  refine region ?_
  refine sv (yLss h8 h7) ?_
  refine nil ?_
  show Code.wp _ _ _ _ _
  refine seq ?_
  refine cond rfl (fun c9 => ?_) (fun c9 => ?_)
  ·
    simp only [Bool.and_eq_true, Bool.or_eq_true, Bool.and_eq_false_iff, Bool.or_eq_false_iff, decide_eq_true_eq, decide_eq_false_iff_not, Bool.not_eq_true, Bool.not_eq_false, Bool.not_not, Bool.not_eq_eq_eq_not, Bool.not_true, Bool.not_false, Bool.false_eq_true, Bool.true_eq_false, ne_eq, Decidable.not_not, not_false_eq_true, not_true_eq_false] at c9
    refine skip ?_
    show Code.wp _ _ _ _ _
    refine seq ?_
    refine block ?_
    refine seq ?_
    refine region ?_
    refine sv (yMove h8) ?_
    refine sv (yAsg rfl) ?_
    refine nil ?_
    show Code.wp _ _ _ _ _
    refine seq ?_
    refine region ?_
    obtain ⟨x, hx, hd⟩ := drop_of (l := l) (k := k) (by omega)
    obtain ⟨b, o, cs, ha, hlen, hcs, hR⟩ := hel k (by omega)
    obtain rfl : x = l[k] := (List.getElem?_eq_some_iff.1 hx).2.symm
    obtain ⟨rfl, hi64⟩ := hR
    have hR : RInt w0 [.int .i64 l[k]] l[k] := ⟨rfl, hi64⟩
    refine sv (yMove h1) ?_
    refine sv (yMove h0) ?_
    refine sv (yMove rfl) ?_
    refine sv (yIxa rfl ha rfl Tryz.runUnderlying37 Tryz.sizeOf3 (by omega) (by omega)) ?_
    refine sv (yLd rfl Tryz.isAgg3 (hcs.ext hS.ext).one) ?_
    refine scallf rfl hcall (.cons rfl .nil) (hp _ _ _ (List.getElem_mem _) hS.ext hR) ?_
    rintro _ w ⟨rfl, hE⟩; replace hS := hS.step hE; clear hE
    refine nil ?_
    show Code.wp _ _ _ _ _
    refine cond rfl (fun c16 => ?_) (fun c16 => ?_)
    ·
      refine seq ?_
      refine region ?_
      refine sv (yMove rfl) ?_
      refine sv (yAsg rfl) ?_
      refine nil ?_
      show Code.wp _ _ _ _ _
      refine wp_ret (blockR (thenR (thenR (blockR (thenR ?_)))))
      exact retV (res1 rfl (by rw [hI, hd, idxF, if_pos c16]; rfl)) hS.ext
    ·
      refine skip ?_
      show Code.wp _ _ _ _ _
      refine region ?_
      refine sv (yAdd h8 rfl ⟨by omega, by omega⟩) ?_
      refine sv (yMove rfl) ?_
      refine nil ?_
      exact ⟨_, _, rfl, ⟨k + 1, h0, h1, h7, rfl, hS, (by omega), (by rw [hI, hd, idxF, if_neg (by simp [c16])]; rfl), rfl⟩, by omega⟩
  ·
    simp only [Bool.and_eq_true, Bool.or_eq_true, Bool.and_eq_false_iff, Bool.or_eq_false_iff, decide_eq_true_eq, decide_eq_false_iff_not, Bool.not_eq_true, Bool.not_eq_false, Bool.not_not, Bool.not_eq_eq_eq_not, Bool.not_true, Bool.not_false, Bool.false_eq_true, Bool.true_eq_false, ne_eq, Decidable.not_not, not_false_eq_true, not_true_eq_false] at c9
    refine exit ?_
    show Code.wp _ _ _ _ _
    refine seq ?_
    refine region ?_
    refine sv (yAsg rfl) ?_
    refine nil ?_
    show Code.wp _ _ _ _ _
    obtain rfl : k = l.length := by omega
    refine wp_ret ?_
    exact retV (res1 rfl (by rw [hI, List.drop_length]; rfl)) hS.ext
/-- slices.ContainsFunc   int,int  -/
theorem c_ContainsFuncInt {l : List Int} {p : Int → Bool} {v : Value} {g : Nat} {cl : List Value} {w0 : World} (hsl : Sl w0 1 RInt v l) (hcall : ∀ ys w, (callFunc g ys).run Tryz.prog w = .ok (.enter g ys) w) (hp : ∀ x cs w, x ∈ l → Ext w0 w → RInt w cs x → CV Tryz.prog g (.int .i64 x :: cl).toArray w (.bool (p x))) : CV Tryz.prog 78 #[v, .func (.func g) #[] cl.toArray] w0 (.bool (l.any p)) := by
  refine enter Tryz.func78 rfl Tryz.ntmps78 rfl ?_
  have hS := St.start w0
  refine seq ?_
  refine region ?_
  refine sv (yAsg rfl) ?_
  refine nil ?_
  show Code.wp _ _ _ _ _
  refine seq ?_
  refine region ?_
  refine sv (yMove rfl) ?_
  refine sv (yMove rfl) ?_
  refine scall Tryz.call92 (.cons rfl (.cons rfl .nil)) (c_IndexFuncInt hsl hcall hp) ?_
  rintro _ w ⟨rfl, hE⟩; replace hS := hS.step hE; clear hE
  refine sv (yGeq rfl rfl) ?_
  refine sv (yAsg rfl) ?_
  refine nil ?_
  show Code.wp _ _ _ _ _
  refine wp_ret ?_
  exact retV (res1 rfl (by rw [← idxF_any p l 0 (Int.le_refl 0)]; rfl)) hS.ext
/-- slices.IndexFunc   barrage/api.CrSpan,barrage/api.CrSpan  -/
theorem c_IndexSpn {l : List Spn} {p : Spn → Bool} {v : Value} {g : Nat} {cl : List Value} {w0 : World} (hsl : Sl w0 2 RSpn v l) (hcall : ∀ ys w, (callFunc g ys).run Tryz.prog w = .ok (.enter g ys) w) (hp : ∀ x w, x ∈ l → Ext w0 w → CV Tryz.prog g (.agg (spnC x).toArray :: cl).toArray w (.bool (p x))) : CV Tryz.prog 91 #[v, .func (.func g) #[] cl.toArray] w0 (.int .i64 (idxF p l 0)) := by
  obtain ⟨a, cap, rfl, hcap, hmx, hel⟩ := hsl
  refine enter Tryz.func91 rfl Tryz.ntmps91 rfl ?_
  have hS := St.start w0
  refine seq ?_
  refine region ?_
  refine sv (yAsg rfl) ?_
  refine nil ?_
  show Code.wp _ _ _ _ _
  refine seq ?_
  refine seq ?_
  refine region ?_
  refine sv (yMove rfl) ?_
  refine sv (yLen rfl Tryz.underlying95) ?_
  refine sv (yMove rfl) ?_
  refine nil ?_
  show Code.wp _ _ _ _ _
  refine block ?_
  refine loop (fun f w zz => ∃ (k : Nat), f 0 = .slice a l.length cap ∧ f 1 = .func (.func g) #[] cl.toArray ∧ f 7 = .int .i64 (l.length : Int) ∧ f 8 = .int .i64 (k : Int) ∧ StX [] w0 w [] ∧ (k ≤ l.length) ∧ (idxF p l 0 = idxF p (l.drop k) k) ∧ zz = l.length - k) _ ⟨_, rfl, 0, rfl, rfl, rfl, rfl, hS, (Nat.zero_le _), (rfl), rfl⟩ ?_
  clear hS
  rintro f w _ ⟨k, h0, h1, h7, h8, hS, hk, hI, rfl⟩
  refine seq ?_
  refine region ?_
  refine sv (yLss h8 h7) ?_
  refine nil ?_
  show Code.wp _ _ _ _ _
  refine seq ?_
  refine cond rfl (fun c9 => ?_) (fun c9 => ?_)
  ·
    simp only [Bool.and_eq_true, Bool.or_eq_true, Bool.and_eq_false_iff, Bool.or_eq_false_iff, decide_eq_true_eq, decide_eq_false_iff_not, Bool.not_eq_true, Bool.not_eq_false, Bool.not_not, Bool.not_eq_eq_eq_not, Bool.not_true, Bool.not_false, Bool.false_eq_true, Bool.true_eq_false, ne_eq, Decidable.not_not, not_false_eq_true, not_true_eq_false] at c9
    refine skip ?_
    show Code.wp _ _ _ _ _
    refine seq ?_
    refine block ?_
    refine seq ?_
    refine region ?_
    refine sv (yMove h8) ?_
    refine sv (yAsg rfl) ?_
    refine nil ?_
    show Code.wp _ _ _ _ _
    refine seq ?_
    refine region ?_
    obtain ⟨x, hx, hd⟩ := drop_of (l := l) (k := k) (by omega)
    obtain ⟨b, o, cs, ha, hlen, hcs, hR⟩ := hel k (by omega)
    obtain rfl : x = l[k] := (List.getElem?_eq_some_iff.1 hx).2.symm
    obtain ⟨rfl, -⟩ := hR
    refine sv (yMove h1) ?_
    refine sv (yMove h0) ?_
    refine sv (yMove rfl) ?_
    refine sv (yIxa rfl ha rfl Tryz.runUnderlying95 Tryz.sizeOf94 (by omega) (by omega)) ?_
    refine sv (yLdA rfl Tryz.isAgg94 Tryz.sizeOf94 (hcs.ext hS.ext) rfl) ?_
    refine scallf rfl hcall (.cons rfl .nil) (hp _ _ (List.getElem_mem _) hS.ext) ?_
    rintro _ w ⟨rfl, hE⟩; replace hS := hS.step hE; clear hE
    refine nil ?_
    show Code.wp _ _ _ _ _
    refine cond rfl (fun c16 => ?_) (fun c16 => ?_)
    ·
      refine seq ?_
      refine region ?_
      refine sv (yMove rfl) ?_
      refine sv (yAsg rfl) ?_
      refine nil ?_
      show Code.wp _ _ _ _ _
      refine wp_ret (blockR (thenR (thenR (blockR (thenR ?_)))))
      exact retV (res1 rfl (by rw [hI, hd, idxF, if_pos c16]; rfl)) hS.ext
    ·
      refine skip ?_
      show Code.wp _ _ _ _ _
      refine region ?_
      refine sv (yAdd h8 rfl ⟨by omega, by omega⟩) ?_
      refine sv (yMove rfl) ?_
      refine nil ?_
      exact ⟨_, _, rfl, ⟨k + 1, h0, h1, h7, rfl, hS, (by omega), (by rw [hI, hd, idxF, if_neg (by simp [c16])]; rfl), rfl⟩, by omega⟩
  ·
    simp only [Bool.and_eq_true, Bool.or_eq_true, Bool.and_eq_false_iff, Bool.or_eq_false_iff, decide_eq_true_eq, decide_eq_false_iff_not, Bool.not_eq_true, Bool.not_eq_false, Bool.not_not, Bool.not_eq_eq_eq_not, Bool.not_true, Bool.not_false, Bool.false_eq_true, Bool.true_eq_false, ne_eq, Decidable.not_not, not_false_eq_true, not_true_eq_false] at c9
    refine exit ?_
    show Code.wp _ _ _ _ _
    refine seq ?_
    refine region ?_
    refine sv (yAsg rfl) ?_
    refine nil ?_
    show Code.wp _ _ _ _ _
    obtain rfl : k = l.length := by omega
    refine wp_ret ?_
    exact retV (res1 rfl (by rw [hI, List.drop_length]; rfl)) hS.ext
/-- slices.ContainsFunc   barrage/api.CrSpan,barrage/api.CrSpan  -/
theorem c_ContainsSpn {l : List Spn} {p : Spn → Bool} {v : Value} {g : Nat} {cl : List Value} {w0 : World} (hsl : Sl w0 2 RSpn v l) (hcall : ∀ ys w, (callFunc g ys).run Tryz.prog w = .ok (.enter g ys) w) (hp : ∀ x w, x ∈ l → Ext w0 w → CV Tryz.prog g (.agg (spnC x).toArray :: cl).toArray w (.bool (p x))) : CV Tryz.prog 76 #[v, .func (.func g) #[] cl.toArray] w0 (.bool (l.any p)) := by
  refine enter Tryz.func76 rfl Tryz.ntmps76 rfl ?_
  have hS := St.start w0
  refine seq ?_
  refine region ?_
  refine sv (yAsg rfl) ?_
  refine nil ?_
  show Code.wp _ _ _ _ _
  refine seq ?_
  refine region ?_
  refine sv (yMove rfl) ?_
  refine sv (yMove rfl) ?_
  refine scall Tryz.call91 (.cons rfl (.cons rfl .nil)) (c_IndexSpn hsl hcall hp) ?_
  rintro _ w ⟨rfl, hE⟩; replace hS := hS.step hE; clear hE
  refine sv (yGeq rfl rfl) ?_
  refine sv (yAsg rfl) ?_
  refine nil ?_
  show Code.wp _ _ _ _ _
  refine wp_ret ?_
  exact retV (res1 rfl (by rw [← idxF_any p l 0 (Int.le_refl 0)]; rfl)) hS.ext
end Go.Proofs.YtghgnofilbnbaaaGreat

/- part Ck2 -/
namespace Go.Proofs.YtghgnofilbnbaaaGreat
open Go Bx
set_option maxHeartbeats 1000000 in
/-- barrage/crew.named barrage/api.CrOperator  -/
theorem c_namedOpr {l : List Opr} {v : Value} {g1 g2 : Nat} {k1 k2 : List Value} {nm : Opr → ByteArray} {rest : Opr → Int} {w0 : World} (hsl : Sl w0 3 ROpr v l) (hc1 : ∀ ys w, (callFunc g1 ys).run Tryz.prog w = .ok (.enter g1 ys) w) (hc2 : ∀ ys w, (callFunc g2 ys).run Tryz.prog w = .ok (.enter g2 ys) w) (hn : ∀ x cs w, x ∈ l → Ext w0 w → ROpr w cs x → CV Tryz.prog g1 (.agg cs.toArray :: k1).toArray w (.string (nm x))) (hr : ∀ x cs w, x ∈ l → Ext w0 w → ROpr w cs x → CV Tryz.prog g2 (.agg cs.toArray :: k2).toArray w (.int .i64 (rest x))) (hsz : ∀ x ∈ l, (nm x).size ≤ 9223372036854775807) : CV Tryz.prog 50 #[v, .func (.func g1) #[] k1.toArray, .func (.func g2) #[] k2.toArray] w0 (.tuple #[.int .i64 (namedR nm rest l [] 0).1, .int .i64 (namedR nm rest l [] 0).2]) := by
  obtain ⟨a, cap, rfl, hcap, hmx, hel⟩ := id hsl
  refine enter Tryz.func50 rfl Tryz.ntmps50 rfl ?_
  have hS := St.start w0
  refine seq ?_
  refine region ?_
  refine sv (yAsg rfl) ?_
  refine sv (yAsg rfl) ?_
  refine nil ?_
  show Code.wp _ _ _ _ _
  refine seq ?_
  refine region ?_
  refine smkmap Value.string hS ?_; clear hS; intro b13 w hS
  refine sv (yAsg rfl) ?_
  refine nil ?_
  show Code.wp _ _ _ _ _
  refine seq ?_
  refine seq ?_
  refine region ?_
  refine sv (yMove rfl) ?_
  refine sv (yLen rfl Tryz.underlying22) ?_
  refine sv (yMove rfl) ?_
  refine nil ?_
  show Code.wp _ _ _ _ _
  refine block ?_
  refine loop (fun f w zz => ∃ (k : Nat), f 1 = .func (.func g1) #[] k1.toArray ∧ f 2 = .func (.func g2) #[] k2.toArray ∧ f 8 = .map (some b13) ∧ f 14 = .slice a l.length cap ∧ f 15 = .int .i64 (l.length : Int) ∧ f 16 = .int .i64 (k : Int) ∧ StX [] w0 w [mapI b13 Value.string (seenM ((l.take k).map nm))] ∧ (k ≤ l.length) ∧ (namedR nm rest l [] 0 = namedR nm rest (l.drop k) ((l.take k).map nm) k) ∧ zz = l.length - k) _ ⟨_, rfl, 0, rfl, rfl, rfl, rfl, rfl, rfl, hS, (Nat.zero_le _), (rfl), rfl⟩ ?_
  clear hS
  rintro f w _ ⟨k, h1, h2, h8, h14, h15, h16, hS, hk, hI, rfl⟩
  refine seq ?_
  refine region ?_
  refine sv (yLss h16 h15) ?_
  refine nil ?_
  show Code.wp _ _ _ _ _
  refine seq ?_
  refine cond rfl (fun c17 => ?_) (fun c17 => ?_)
  ·
    simp only [Bool.and_eq_true, Bool.or_eq_true, Bool.and_eq_false_iff, Bool.or_eq_false_iff, decide_eq_true_eq, decide_eq_false_iff_not, Bool.not_eq_true, Bool.not_eq_false, Bool.not_not, Bool.not_eq_eq_eq_not, Bool.not_true, Bool.not_false, Bool.false_eq_true, Bool.true_eq_false, ne_eq, Decidable.not_not, not_false_eq_true, not_true_eq_false] at c17
    refine skip ?_
    show Code.wp _ _ _ _ _
    refine seq ?_
    refine block ?_
    refine seq ?_
    refine region ?_
    obtain ⟨x, hx, hd⟩ := drop_of (l := l) (k := k) (by omega)
    obtain ⟨b, o, cs, ha, hlen, hcs, hR⟩ := hel (k) (by omega)
    obtain rfl : x = l[k] := (List.getElem?_eq_some_iff.1 hx).2.symm
    generalize l[k] = x at hx hd hR
    have hR0 := hR
    obtain ⟨dv, rfl, -, -, ⟨ad, cd, rfl, -⟩, -⟩ := id hR0
    have hxm := List.mem_of_getElem? hx
    refine sv (yMove h16) ?_
    refine sv (yIxa h14 ha h16 Tryz.runUnderlying22 Tryz.sizeOf97 (by omega) (by omega)) ?_
    refine sv (yLdA rfl Tryz.isAgg97 Tryz.sizeOf97 (hcs.ext hS.ext) rfl) ?_
    refine salloc hS Tryz.zeroValue97 rfl ?_; clear hS; intro b10 w hS
    refine sv (yAsg rfl) ?_
    refine sst hS rfl rfl Tryz.sizeOf97 rfl rfl rfl rfl ?_; clear hS; intro w hS
    refine nil ?_
    show Code.wp _ _ _ _ _
    refine seq ?_
    refine region ?_
    refine sv (yMove h1) ?_
    refine sv (yLdBA rfl Tryz.isAgg97 Tryz.sizeOf97 (hS.at _) rfl rfl) ?_
    refine scallf rfl hc1 (.cons rfl .nil) (hn x _ _ hxm hS.ext (ROpr.stays _ _ _ _ hS.ext hR0)) ?_
    rintro _ w ⟨rfl, hE⟩; replace hS := hS.step hE; clear hE
    refine sv (yAsg rfl) ?_
    refine nil ?_
    show Code.wp _ _ _ _ _
    refine seq ?_
    refine block ?_
    refine seq ?_
    refine region ?_
    refine sv (yMove rfl) ?_
    refine scall Tryz.call44 (.cons rfl .nil) (c_Name (hsz x hxm)) ?_
    rintro _ w ⟨rfl, hE⟩; replace hS := hS.step hE; clear hE
    refine sv (yNot rfl) ?_
    refine sv (yAsg rfl) ?_
    refine nil ?_
    show Code.wp _ _ _ _ _
    refine cond rfl (fun c24 => ?_) (fun c24 => ?_)
    ·
      refine seq ?_
      refine region ?_
      refine sv (yMove rfl) ?_
      refine sv (yAsg rfl) ?_
      refine sv (yAsg rfl) ?_
      refine nil ?_
      show Code.wp _ _ _ _ _
      have hfin : namedR nm rest l [] 0 = ((k : Int), 6) := by rw [hI, hd, namedR, if_pos c24]
      refine wp_ret (blockR (thenR (blockR (thenR (thenR (blockR (thenR ?_)))))))
      exact retV (res2 rfl (fstI hfin) (sndI hfin)) hS.ext
    ·
      refine seq ?_
      refine region ?_
      refine sv (yMove h8) ?_
      refine sv (yMove rfl) ?_
      refine sv (yLook Value.string rfl rfl Tryz.runUnderlying130 (keyStr Tryz.underlying9) Tryz.zeroValue4 (hS.is _) (getM_seen _ _)) ?_
      refine sv (yAsg rfl) ?_
      refine nil ?_
      show Code.wp _ _ _ _ _
      refine cond rfl (fun c29 => ?_) (fun c29 => ?_)
      ·
        refine seq ?_
        refine region ?_
        refine sv (yMove rfl) ?_
        refine sv (yAsg rfl) ?_
        refine sv (yAsg rfl) ?_
        refine nil ?_
        show Code.wp _ _ _ _ _
        have hfin : namedR nm rest l [] 0 = ((k : Int), 5) := by rw [hI, hd, namedR, if_neg (by rw [c24]; decide), if_pos c29]
        refine wp_ret (blockR (thenR (blockR (thenR (thenR (blockR (thenR ?_)))))))
        exact retV (res2 rfl (fstI hfin) (sndI hfin)) hS.ext
      ·
        refine skip ?_
        show Code.wp _ _ _ _ _
        refine seq ?_
        refine seq ?_
        refine region ?_
        refine sv (yMove h2) ?_
        refine sv (yLdBA rfl Tryz.isAgg97 Tryz.sizeOf97 (hS.at _) rfl rfl) ?_
        refine scallf rfl hc2 (.cons rfl .nil) (hr x _ _ hxm hS.ext (ROpr.stays _ _ _ _ hS.ext hR0)) ?_
        rintro _ w ⟨rfl, hE⟩; replace hS := hS.step hE; clear hE
        refine sv (yAsg rfl) ?_
        refine nil ?_
        show Code.wp _ _ _ _ _
        refine seq ?_
        refine region ?_
        refine sv (yMove rfl) ?_
        refine sv (yNeq rfl rfl) ?_
        refine nil ?_
        show Code.wp _ _ _ _ _
        refine cond rfl (fun c38 => ?_) (fun c38 => ?_)
        ·
          simp only [Bool.and_eq_true, Bool.or_eq_true, Bool.and_eq_false_iff, Bool.or_eq_false_iff, decide_eq_true_eq, decide_eq_false_iff_not, Bool.not_eq_true, Bool.not_eq_false, Bool.not_not, Bool.not_eq_eq_eq_not, Bool.not_true, Bool.not_false, Bool.false_eq_true, Bool.true_eq_false, ne_eq, Decidable.not_not, not_false_eq_true, not_true_eq_false] at c38
          refine seq ?_
          refine region ?_
          refine sv (yMove rfl) ?_
          refine sv (yMove rfl) ?_
          refine sv (yAsg rfl) ?_
          refine sv (yAsg rfl) ?_
          refine nil ?_
          show Code.wp _ _ _ _ _
          have hfin : namedR nm rest l [] 0 = ((k : Int), rest x) := by rw [hI, hd, namedR, if_neg (by rw [c24]; decide), if_neg (by rw [c29]; decide), if_pos c38]
          refine wp_ret (thenR (blockR (thenR (thenR (blockR (thenR ?_))))))
          exact retV (res2 rfl (fstI hfin) (sndI hfin)) hS.ext
        ·
          simp only [Bool.and_eq_true, Bool.or_eq_true, Bool.and_eq_false_iff, Bool.or_eq_false_iff, decide_eq_true_eq, decide_eq_false_iff_not, Bool.not_eq_true, Bool.not_eq_false, Bool.not_not, Bool.not_eq_eq_eq_not, Bool.not_true, Bool.not_false, Bool.false_eq_true, Bool.true_eq_false, ne_eq, Decidable.not_not, not_false_eq_true, not_true_eq_false] at c38
          refine skip ?_
          show Code.wp _ _ _ _ _
          refine region ?_
          refine sv (yMove h8) ?_
          refine sv (yMove rfl) ?_
          refine smapset Value.string hS rfl rfl rfl Tryz.runUnderlying130 (keyStr Tryz.underlying9) ?_; clear hS; intro w hS
          refine nil ?_
          show Code.wp _ _ _ _ _
          refine region ?_
          refine sv (yAdd h16 rfl ⟨by omega, by omega⟩) ?_
          refine sv (yMove rfl) ?_
          refine nil ?_
          exact ⟨_, _, rfl, ⟨k + 1, h1, h2, h8, h14, h15, rfl, (by rw [namedR_take hx, ← setM_seen _ _ (fun h => by rw [memB_iff.2 h] at c29; cases c29)]; exact hS.sub (.cons _ (List.Sublist.refl _))), (by omega), (by rw [hI, hd, namedR, if_neg (by rw [c24]; decide), if_neg (by rw [c29]; decide), if_neg (fun h => h c38), namedR_take hx]; rfl), rfl⟩, by omega⟩
  ·
    simp only [Bool.and_eq_true, Bool.or_eq_true, Bool.and_eq_false_iff, Bool.or_eq_false_iff, decide_eq_true_eq, decide_eq_false_iff_not, Bool.not_eq_true, Bool.not_eq_false, Bool.not_not, Bool.not_eq_eq_eq_not, Bool.not_true, Bool.not_false, Bool.false_eq_true, Bool.true_eq_false, ne_eq, Decidable.not_not, not_false_eq_true, not_true_eq_false] at c17
    refine exit ?_
    show Code.wp _ _ _ _ _
    refine seq ?_
    refine region ?_
    refine sv (yAsg rfl) ?_
    refine sv (yAsg rfl) ?_
    refine nil ?_
    show Code.wp _ _ _ _ _
    obtain rfl : k = l.length := by omega
    have hfin : namedR nm rest l [] 0 = (0, 0) := by rw [hI, List.drop_length]; rfl
    refine wp_ret ?_
    exact retV (res2 rfl (fstI hfin) (sndI hfin)) hS.ext
set_option maxHeartbeats 1000000 in
/-- barrage/crew.named string  -/
theorem c_namedKey {l : List ByteArray} {v : Value} {g1 g2 : Nat} {k1 k2 : List Value} {nm : ByteArray → ByteArray} {rest : ByteArray → Int} {w0 : World} (hsl : Sl w0 1 RNam v l) (hc1 : ∀ ys w, (callFunc g1 ys).run Tryz.prog w = .ok (.enter g1 ys) w) (hc2 : ∀ ys w, (callFunc g2 ys).run Tryz.prog w = .ok (.enter g2 ys) w) (hn : ∀ x cs w, x ∈ l → Ext w0 w → RNam w cs x → CV Tryz.prog g1 (.string x :: k1).toArray w (.string (nm x))) (hr : ∀ x cs w, x ∈ l → Ext w0 w → RNam w cs x → CV Tryz.prog g2 (.string x :: k2).toArray w (.int .i64 (rest x))) (hsz : ∀ x ∈ l, (nm x).size ≤ 9223372036854775807) : CV Tryz.prog 53 #[v, .func (.func g1) #[] k1.toArray, .func (.func g2) #[] k2.toArray] w0 (.tuple #[.int .i64 (namedR nm rest l [] 0).1, .int .i64 (namedR nm rest l [] 0).2]) := by
  obtain ⟨a, cap, rfl, hcap, hmx, hel⟩ := id hsl
  refine enter Tryz.func53 rfl Tryz.ntmps53 rfl ?_
  have hS := St.start w0
  refine seq ?_
  refine region ?_
  refine sv (yAsg rfl) ?_
  refine sv (yAsg rfl) ?_
  refine nil ?_
  show Code.wp _ _ _ _ _
  refine seq ?_
  refine region ?_
  refine smkmap Value.string hS ?_; clear hS; intro b13 w hS
  refine sv (yAsg rfl) ?_
  refine nil ?_
  show Code.wp _ _ _ _ _
  refine seq ?_
  refine seq ?_
  refine region ?_
  refine sv (yMove rfl) ?_
  refine sv (yLen rfl Tryz.underlying23) ?_
  refine sv (yMove rfl) ?_
  refine nil ?_
  show Code.wp _ _ _ _ _
  refine block ?_
  refine loop (fun f w zz => ∃ (k : Nat), f 1 = .func (.func g1) #[] k1.toArray ∧ f 2 = .func (.func g2) #[] k2.toArray ∧ f 8 = .map (some b13) ∧ f 14 = .slice a l.length cap ∧ f 15 = .int .i64 (l.length : Int) ∧ f 16 = .int .i64 (k : Int) ∧ StX [] w0 w [mapI b13 Value.string (seenM ((l.take k).map nm))] ∧ (k ≤ l.length) ∧ (namedR nm rest l [] 0 = namedR nm rest (l.drop k) ((l.take k).map nm) k) ∧ zz = l.length - k) _ ⟨_, rfl, 0, rfl, rfl, rfl, rfl, rfl, rfl, hS, (Nat.zero_le _), (rfl), rfl⟩ ?_
  clear hS
  rintro f w _ ⟨k, h1, h2, h8, h14, h15, h16, hS, hk, hI, rfl⟩
  refine seq ?_
  refine region ?_
  refine sv (yLss h16 h15) ?_
  refine nil ?_
  show Code.wp _ _ _ _ _
  refine seq ?_
  refine cond rfl (fun c17 => ?_) (fun c17 => ?_)
  ·
    simp only [Bool.and_eq_true, Bool.or_eq_true, Bool.and_eq_false_iff, Bool.or_eq_false_iff, decide_eq_true_eq, decide_eq_false_iff_not, Bool.not_eq_true, Bool.not_eq_false, Bool.not_not, Bool.not_eq_eq_eq_not, Bool.not_true, Bool.not_false, Bool.false_eq_true, Bool.true_eq_false, ne_eq, Decidable.not_not, not_false_eq_true, not_true_eq_false] at c17
    refine skip ?_
    show Code.wp _ _ _ _ _
    refine seq ?_
    refine block ?_
    refine seq ?_
    refine region ?_
    obtain ⟨x, hx, hd⟩ := drop_of (l := l) (k := k) (by omega)
    obtain ⟨b, o, cs, ha, hlen, hcs, hR⟩ := hel (k) (by omega)
    obtain rfl : x = l[k] := (List.getElem?_eq_some_iff.1 hx).2.symm
    generalize l[k] = x at hx hd hR
    have hR0 := hR
    obtain ⟨rfl, -⟩ := id hR0
    have hxm := List.mem_of_getElem? hx
    refine sv (yMove h16) ?_
    refine sv (yIxa h14 ha h16 Tryz.runUnderlying23 Tryz.sizeOf9 (by omega) (by omega)) ?_
    refine sv (yLd rfl Tryz.isAgg9 ((hcs.ext hS.ext).one)) ?_
    refine sv (yAsg rfl) ?_
    refine sv (yAsg rfl) ?_
    refine nil ?_
    show Code.wp _ _ _ _ _
    refine seq ?_
    refine region ?_
    refine sv (yMove h1) ?_
    refine sv (yMove rfl) ?_
    refine scallf rfl hc1 (.cons rfl .nil) (hn x _ _ hxm hS.ext (RNam.stays _ _ _ _ hS.ext hR0)) ?_
    rintro _ w ⟨rfl, hE⟩; replace hS := hS.step hE; clear hE
    refine sv (yAsg rfl) ?_
    refine nil ?_
    show Code.wp _ _ _ _ _
    refine seq ?_
    refine block ?_
    refine seq ?_
    refine region ?_
    refine sv (yMove rfl) ?_
    refine scall Tryz.call44 (.cons rfl .nil) (c_Name (hsz x hxm)) ?_
    rintro _ w ⟨rfl, hE⟩; replace hS := hS.step hE; clear hE
    refine sv (yNot rfl) ?_
    refine sv (yAsg rfl) ?_
    refine nil ?_
    show Code.wp _ _ _ _ _
    refine cond rfl (fun c24 => ?_) (fun c24 => ?_)
    ·
      refine seq ?_
      refine region ?_
      refine sv (yMove rfl) ?_
      refine sv (yAsg rfl) ?_
      refine sv (yAsg rfl) ?_
      refine nil ?_
      show Code.wp _ _ _ _ _
      have hfin : namedR nm rest l [] 0 = ((k : Int), 6) := by rw [hI, hd, namedR, if_pos c24]
      refine wp_ret (blockR (thenR (blockR (thenR (thenR (blockR (thenR ?_)))))))
      exact retV (res2 rfl (fstI hfin) (sndI hfin)) hS.ext
    ·
      refine seq ?_
      refine region ?_
      refine sv (yMove h8) ?_
      refine sv (yMove rfl) ?_
      refine sv (yLook Value.string rfl rfl Tryz.runUnderlying130 (keyStr Tryz.underlying9) Tryz.zeroValue4 (hS.is _) (getM_seen _ _)) ?_
      refine sv (yAsg rfl) ?_
      refine nil ?_
      show Code.wp _ _ _ _ _
      refine cond rfl (fun c29 => ?_) (fun c29 => ?_)
      ·
        refine seq ?_
        refine region ?_
        refine sv (yMove rfl) ?_
        refine sv (yAsg rfl) ?_
        refine sv (yAsg rfl) ?_
        refine nil ?_
        show Code.wp _ _ _ _ _
        have hfin : namedR nm rest l [] 0 = ((k : Int), 5) := by rw [hI, hd, namedR, if_neg (by rw [c24]; decide), if_pos c29]
        refine wp_ret (blockR (thenR (blockR (thenR (thenR (blockR (thenR ?_)))))))
        exact retV (res2 rfl (fstI hfin) (sndI hfin)) hS.ext
      ·
        refine skip ?_
        show Code.wp _ _ _ _ _
        refine seq ?_
        refine seq ?_
        refine region ?_
        refine sv (yMove h2) ?_
        refine sv (yMove rfl) ?_
        refine scallf rfl hc2 (.cons rfl .nil) (hr x _ _ hxm hS.ext (RNam.stays _ _ _ _ hS.ext hR0)) ?_
        rintro _ w ⟨rfl, hE⟩; replace hS := hS.step hE; clear hE
        refine sv (yAsg rfl) ?_
        refine nil ?_
        show Code.wp _ _ _ _ _
        refine seq ?_
        refine region ?_
        refine sv (yMove rfl) ?_
        refine sv (yNeq rfl rfl) ?_
        refine nil ?_
        show Code.wp _ _ _ _ _
        refine cond rfl (fun c38 => ?_) (fun c38 => ?_)
        ·
          simp only [Bool.and_eq_true, Bool.or_eq_true, Bool.and_eq_false_iff, Bool.or_eq_false_iff, decide_eq_true_eq, decide_eq_false_iff_not, Bool.not_eq_true, Bool.not_eq_false, Bool.not_not, Bool.not_eq_eq_eq_not, Bool.not_true, Bool.not_false, Bool.false_eq_true, Bool.true_eq_false, ne_eq, Decidable.not_not, not_false_eq_true, not_true_eq_false] at c38
          refine seq ?_
          refine region ?_
          refine sv (yMove rfl) ?_
          refine sv (yMove rfl) ?_
          refine sv (yAsg rfl) ?_
          refine sv (yAsg rfl) ?_
          refine nil ?_
          show Code.wp _ _ _ _ _
          have hfin : namedR nm rest l [] 0 = ((k : Int), rest x) := by rw [hI, hd, namedR, if_neg (by rw [c24]; decide), if_neg (by rw [c29]; decide), if_pos c38]
          refine wp_ret (thenR (blockR (thenR (thenR (blockR (thenR ?_))))))
          exact retV (res2 rfl (fstI hfin) (sndI hfin)) hS.ext
        ·
          simp only [Bool.and_eq_true, Bool.or_eq_true, Bool.and_eq_false_iff, Bool.or_eq_false_iff, decide_eq_true_eq, decide_eq_false_iff_not, Bool.not_eq_true, Bool.not_eq_false, Bool.not_not, Bool.not_eq_eq_eq_not, Bool.not_true, Bool.not_false, Bool.false_eq_true, Bool.true_eq_false, ne_eq, Decidable.not_not, not_false_eq_true, not_true_eq_false] at c38
          refine skip ?_
          show Code.wp _ _ _ _ _
          refine region ?_
          refine sv (yMove h8) ?_
          refine sv (yMove rfl) ?_
          refine smapset Value.string hS rfl rfl rfl Tryz.runUnderlying130 (keyStr Tryz.underlying9) ?_; clear hS; intro w hS
          refine nil ?_
          show Code.wp _ _ _ _ _
          refine region ?_
          refine sv (yAdd h16 rfl ⟨by omega, by omega⟩) ?_
          refine sv (yMove rfl) ?_
          refine nil ?_
          exact ⟨_, _, rfl, ⟨k + 1, h1, h2, h8, h14, h15, rfl, (by rw [namedR_take hx, ← setM_seen _ _ (fun h => by rw [memB_iff.2 h] at c29; cases c29)]; exact hS), (by omega), (by rw [hI, hd, namedR, if_neg (by rw [c24]; decide), if_neg (by rw [c29]; decide), if_neg (fun h => h c38), namedR_take hx]; rfl), rfl⟩, by omega⟩
  ·
    simp only [Bool.and_eq_true, Bool.or_eq_true, Bool.and_eq_false_iff, Bool.or_eq_false_iff, decide_eq_true_eq, decide_eq_false_iff_not, Bool.not_eq_true, Bool.not_eq_false, Bool.not_not, Bool.not_eq_eq_eq_not, Bool.not_true, Bool.not_false, Bool.false_eq_true, Bool.true_eq_false, ne_eq, Decidable.not_not, not_false_eq_true, not_true_eq_false] at c17
    refine exit ?_
    show Code.wp _ _ _ _ _
    refine seq ?_
    refine region ?_
    refine sv (yAsg rfl) ?_
    refine sv (yAsg rfl) ?_
    refine nil ?_
    show Code.wp _ _ _ _ _
    obtain rfl : k = l.length := by omega
    have hfin : namedR nm rest l [] 0 = (0, 0) := by rw [hI, List.drop_length]; rfl
    refine wp_ret ?_
    exact retV (res2 rfl (fstI hfin) (sndI hfin)) hS.ext
set_option maxHeartbeats 1000000 in
/-- barrage/crew.named barrage/api.CrKind  -/
theorem c_namedKnd {l : List Knd} {v : Value} {g1 g2 : Nat} {k1 k2 : List Value} {nm : Knd → ByteArray} {rest : Knd → Int} {w0 : World} (hsl : Sl w0 6 RKnd v l) (hc1 : ∀ ys w, (callFunc g1 ys).run Tryz.prog w = .ok (.enter g1 ys) w) (hc2 : ∀ ys w, (callFunc g2 ys).run Tryz.prog w = .ok (.enter g2 ys) w) (hn : ∀ x cs w, x ∈ l → Ext w0 w → RKnd w cs x → CV Tryz.prog g1 (.agg cs.toArray :: k1).toArray w (.string (nm x))) (hr : ∀ x cs w, x ∈ l → Ext w0 w → RKnd w cs x → CV Tryz.prog g2 (.agg cs.toArray :: k2).toArray w (.int .i64 (rest x))) (hsz : ∀ x ∈ l, (nm x).size ≤ 9223372036854775807) : CV Tryz.prog 56 #[v, .func (.func g1) #[] k1.toArray, .func (.func g2) #[] k2.toArray] w0 (.tuple #[.int .i64 (namedR nm rest l [] 0).1, .int .i64 (namedR nm rest l [] 0).2]) := by
  obtain ⟨a, cap, rfl, hcap, hmx, hel⟩ := id hsl
  refine enter Tryz.func56 rfl Tryz.ntmps56 rfl ?_
  have hS := St.start w0
  refine seq ?_
  refine region ?_
  refine sv (yAsg rfl) ?_
  refine sv (yAsg rfl) ?_
  refine nil ?_
  show Code.wp _ _ _ _ _
  refine seq ?_
  refine region ?_
  refine smkmap Value.string hS ?_; clear hS; intro b13 w hS
  refine sv (yAsg rfl) ?_
  refine nil ?_
  show Code.wp _ _ _ _ _
  refine seq ?_
  refine seq ?_
  refine region ?_
  refine sv (yMove rfl) ?_
  refine sv (yLen rfl Tryz.underlying24) ?_
  refine sv (yMove rfl) ?_
  refine nil ?_
  show Code.wp _ _ _ _ _
  refine block ?_
  refine loop (fun f w zz => ∃ (k : Nat), f 1 = .func (.func g1) #[] k1.toArray ∧ f 2 = .func (.func g2) #[] k2.toArray ∧ f 8 = .map (some b13) ∧ f 14 = .slice a l.length cap ∧ f 15 = .int .i64 (l.length : Int) ∧ f 16 = .int .i64 (k : Int) ∧ StX [] w0 w [mapI b13 Value.string (seenM ((l.take k).map nm))] ∧ (k ≤ l.length) ∧ (namedR nm rest l [] 0 = namedR nm rest (l.drop k) ((l.take k).map nm) k) ∧ zz = l.length - k) _ ⟨_, rfl, 0, rfl, rfl, rfl, rfl, rfl, rfl, hS, (Nat.zero_le _), (rfl), rfl⟩ ?_
  clear hS
  rintro f w _ ⟨k, h1, h2, h8, h14, h15, h16, hS, hk, hI, rfl⟩
  refine seq ?_
  refine region ?_
  refine sv (yLss h16 h15) ?_
  refine nil ?_
  show Code.wp _ _ _ _ _
  refine seq ?_
  refine cond rfl (fun c17 => ?_) (fun c17 => ?_)
  ·
    simp only [Bool.and_eq_true, Bool.or_eq_true, Bool.and_eq_false_iff, Bool.or_eq_false_iff, decide_eq_true_eq, decide_eq_false_iff_not, Bool.not_eq_true, Bool.not_eq_false, Bool.not_not, Bool.not_eq_eq_eq_not, Bool.not_true, Bool.not_false, Bool.false_eq_true, Bool.true_eq_false, ne_eq, Decidable.not_not, not_false_eq_true, not_true_eq_false] at c17
    refine skip ?_
    show Code.wp _ _ _ _ _
    refine seq ?_
    refine block ?_
    refine seq ?_
    refine region ?_
    obtain ⟨x, hx, hd⟩ := drop_of (l := l) (k := k) (by omega)
    obtain ⟨b, o, cs, ha, hlen, hcs, hR⟩ := hel (k) (by omega)
    obtain rfl : x = l[k] := (List.getElem?_eq_some_iff.1 hx).2.symm
    generalize l[k] = x at hx hd hR
    have hR0 := hR
    obtain ⟨kv, rfl, -, -, -, -, ⟨ad, cd, rfl, -⟩, -⟩ := id hR0
    have hxm := List.mem_of_getElem? hx
    refine sv (yMove h16) ?_
    refine sv (yIxa h14 ha h16 Tryz.runUnderlying24 Tryz.sizeOf92 (by omega) (by omega)) ?_
    refine sv (yLdA rfl Tryz.isAgg92 Tryz.sizeOf92 (hcs.ext hS.ext) rfl) ?_
    refine salloc hS Tryz.zeroValue92 rfl ?_; clear hS; intro b10 w hS
    refine sv (yAsg rfl) ?_
    refine sst hS rfl rfl Tryz.sizeOf92 rfl rfl rfl rfl ?_; clear hS; intro w hS
    refine nil ?_
    show Code.wp _ _ _ _ _
    refine seq ?_
    refine region ?_
    refine sv (yMove h1) ?_
    refine sv (yLdBA rfl Tryz.isAgg92 Tryz.sizeOf92 (hS.at _) rfl rfl) ?_
    refine scallf rfl hc1 (.cons rfl .nil) (hn x _ _ hxm hS.ext (RKnd.stays _ _ _ _ hS.ext hR0)) ?_
    rintro _ w ⟨rfl, hE⟩; replace hS := hS.step hE; clear hE
    refine sv (yAsg rfl) ?_
    refine nil ?_
    show Code.wp _ _ _ _ _
    refine seq ?_
    refine block ?_
    refine seq ?_
    refine region ?_
    refine sv (yMove rfl) ?_
    refine scall Tryz.call44 (.cons rfl .nil) (c_Name (hsz x hxm)) ?_
    rintro _ w ⟨rfl, hE⟩; replace hS := hS.step hE; clear hE
    refine sv (yNot rfl) ?_
    refine sv (yAsg rfl) ?_
    refine nil ?_
    show Code.wp _ _ _ _ _
    refine cond rfl (fun c24 => ?_) (fun c24 => ?_)
    ·
      refine seq ?_
      refine region ?_
      refine sv (yMove rfl) ?_
      refine sv (yAsg rfl) ?_
      refine sv (yAsg rfl) ?_
      refine nil ?_
      show Code.wp _ _ _ _ _
      have hfin : namedR nm rest l [] 0 = ((k : Int), 6) := by rw [hI, hd, namedR, if_pos c24]
      refine wp_ret (blockR (thenR (blockR (thenR (thenR (blockR (thenR ?_)))))))
      exact retV (res2 rfl (fstI hfin) (sndI hfin)) hS.ext
    ·
      refine seq ?_
      refine region ?_
      refine sv (yMove h8) ?_
      refine sv (yMove rfl) ?_
      refine sv (yLook Value.string rfl rfl Tryz.runUnderlying130 (keyStr Tryz.underlying9) Tryz.zeroValue4 (hS.is _) (getM_seen _ _)) ?_
      refine sv (yAsg rfl) ?_
      refine nil ?_
      show Code.wp _ _ _ _ _
      refine cond rfl (fun c29 => ?_) (fun c29 => ?_)
      ·
        refine seq ?_
        refine region ?_
        refine sv (yMove rfl) ?_
        refine sv (yAsg rfl) ?_
        refine sv (yAsg rfl) ?_
        refine nil ?_
        show Code.wp _ _ _ _ _
        have hfin : namedR nm rest l [] 0 = ((k : Int), 5) := by rw [hI, hd, namedR, if_neg (by rw [c24]; decide), if_pos c29]
        refine wp_ret (blockR (thenR (blockR (thenR (thenR (blockR (thenR ?_)))))))
        exact retV (res2 rfl (fstI hfin) (sndI hfin)) hS.ext
      ·
        refine skip ?_
        show Code.wp _ _ _ _ _
        refine seq ?_
        refine seq ?_
        refine region ?_
        refine sv (yMove h2) ?_
        refine sv (yLdBA rfl Tryz.isAgg92 Tryz.sizeOf92 (hS.at _) rfl rfl) ?_
        refine scallf rfl hc2 (.cons rfl .nil) (hr x _ _ hxm hS.ext (RKnd.stays _ _ _ _ hS.ext hR0)) ?_
        rintro _ w ⟨rfl, hE⟩; replace hS := hS.step hE; clear hE
        refine sv (yAsg rfl) ?_
        refine nil ?_
        show Code.wp _ _ _ _ _
        refine seq ?_
        refine region ?_
        refine sv (yMove rfl) ?_
        refine sv (yNeq rfl rfl) ?_
        refine nil ?_
        show Code.wp _ _ _ _ _
        refine cond rfl (fun c38 => ?_) (fun c38 => ?_)
        ·
          simp only [Bool.and_eq_true, Bool.or_eq_true, Bool.and_eq_false_iff, Bool.or_eq_false_iff, decide_eq_true_eq, decide_eq_false_iff_not, Bool.not_eq_true, Bool.not_eq_false, Bool.not_not, Bool.not_eq_eq_eq_not, Bool.not_true, Bool.not_false, Bool.false_eq_true, Bool.true_eq_false, ne_eq, Decidable.not_not, not_false_eq_true, not_true_eq_false] at c38
          refine seq ?_
          refine region ?_
          refine sv (yMove rfl) ?_
          refine sv (yMove rfl) ?_
          refine sv (yAsg rfl) ?_
          refine sv (yAsg rfl) ?_
          refine nil ?_
          show Code.wp _ _ _ _ _
          have hfin : namedR nm rest l [] 0 = ((k : Int), rest x) := by rw [hI, hd, namedR, if_neg (by rw [c24]; decide), if_neg (by rw [c29]; decide), if_pos c38]
          refine wp_ret (thenR (blockR (thenR (thenR (blockR (thenR ?_))))))
          exact retV (res2 rfl (fstI hfin) (sndI hfin)) hS.ext
        ·
          simp only [Bool.and_eq_true, Bool.or_eq_true, Bool.and_eq_false_iff, Bool.or_eq_false_iff, decide_eq_true_eq, decide_eq_false_iff_not, Bool.not_eq_true, Bool.not_eq_false, Bool.not_not, Bool.not_eq_eq_eq_not, Bool.not_true, Bool.not_false, Bool.false_eq_true, Bool.true_eq_false, ne_eq, Decidable.not_not, not_false_eq_true, not_true_eq_false] at c38
          refine skip ?_
          show Code.wp _ _ _ _ _
          refine region ?_
          refine sv (yMove h8) ?_
          refine sv (yMove rfl) ?_
          refine smapset Value.string hS rfl rfl rfl Tryz.runUnderlying130 (keyStr Tryz.underlying9) ?_; clear hS; intro w hS
          refine nil ?_
          show Code.wp _ _ _ _ _
          refine region ?_
          refine sv (yAdd h16 rfl ⟨by omega, by omega⟩) ?_
          refine sv (yMove rfl) ?_
          refine nil ?_
          exact ⟨_, _, rfl, ⟨k + 1, h1, h2, h8, h14, h15, rfl, (by rw [namedR_take hx, ← setM_seen _ _ (fun h => by rw [memB_iff.2 h] at c29; cases c29)]; exact hS.sub (.cons _ (List.Sublist.refl _))), (by omega), (by rw [hI, hd, namedR, if_neg (by rw [c24]; decide), if_neg (by rw [c29]; decide), if_neg (fun h => h c38), namedR_take hx]; rfl), rfl⟩, by omega⟩
  ·
    simp only [Bool.and_eq_true, Bool.or_eq_true, Bool.and_eq_false_iff, Bool.or_eq_false_iff, decide_eq_true_eq, decide_eq_false_iff_not, Bool.not_eq_true, Bool.not_eq_false, Bool.not_not, Bool.not_eq_eq_eq_not, Bool.not_true, Bool.not_false, Bool.false_eq_true, Bool.true_eq_false, ne_eq, Decidable.not_not, not_false_eq_true, not_true_eq_false] at c17
    refine exit ?_
    show Code.wp _ _ _ _ _
    refine seq ?_
    refine region ?_
    refine sv (yAsg rfl) ?_
    refine sv (yAsg rfl) ?_
    refine nil ?_
    show Code.wp _ _ _ _ _
    obtain rfl : k = l.length := by omega
    have hfin : namedR nm rest l [] 0 = (0, 0) := by rw [hI, List.drop_length]; rfl
    refine wp_ret ?_
    exact retV (res2 rfl (fstI hfin) (sndI hfin)) hS.ext
/-- barrage/crew.operator closure 1 -/
theorem c_operator1 {s : Spn} {w0 : World} : CV Tryz.prog 77 #[.agg (spnC s).toArray] w0 (.bool (spnBad s)) := by
  refine enter Tryz.func77 rfl Tryz.ntmps77 rfl ?_
  have hS := St.start w0
  refine seq ?_
  refine region ?_
  refine sbox hS rfl rfl ?_; clear hS; intro b1 w hS
  refine sv (yAsg rfl) ?_
  refine nil ?_
  show Code.wp _ _ _ _ _
  refine seq ?_
  refine region ?_
  refine sv (fa94_1 rfl) ?_
  refine sv (yLdB rfl Tryz.isAgg3 (hS.at _) rfl) ?_
  refine scall Tryz.call25 (.cons rfl .nil) c_never ?_
  rintro _ w ⟨rfl, hE⟩; replace hS := hS.step hE; clear hE
  refine sv (yMove rfl) ?_
  refine sg rfl rfl rfl (fun g => (fa94_0 rfl)) (fun v7 g7 => ?_)
  refine sg rfl rfl rfl (fun g => (yLdB (g7.1 g) Tryz.isAgg3 (hS.at _) rfl)) (fun v8 g8 => ?_)
  refine sg rfl rfl rfl (fun g => (fa94_1 rfl)) (fun v9 g9 => ?_)
  refine sg rfl rfl rfl (fun g => (yLdB (g9.1 g) Tryz.isAgg3 (hS.at _) rfl)) (fun v10 g10 => ?_)
  refine sgc hS rfl rfl rfl Tryz.call45 (fun g => (.cons (g8.1 g) (.cons rfl (.cons (g10.1 g) .nil)))) (fun g => c_out) ?_; clear hS; intro v11 w hS g11
  refine sv (yOr rfl rfl (fun hB => (g11.1 hB))) ?_
  refine sv (yAsg rfl) ?_
  refine nil ?_
  show Code.wp _ _ _ _ _
  refine wp_ret ?_
  exact retV (res1 rfl rfl) hS.ext
/-- barrage/crew.operator -/
theorem c_operator {o : Opr} {cs : List Value} {w0 : World} (h : ROpr w0 cs o) : CV Tryz.prog 52 #[.agg cs.toArray] w0 (.int .i64 (oprE o)) := by
  obtain ⟨dv, rfl, hnm, hgr, hsd, hrm⟩ := id h
  obtain ⟨a, cap, rfl, hcap, hmx, hel⟩ := id hsd
  refine enter Tryz.func52 rfl Tryz.ntmps52 rfl ?_
  have hS := St.start w0
  refine seq ?_
  refine region ?_
  refine sbox hS rfl rfl ?_; clear hS; intro b1 w hS
  refine sv (yAsg rfl) ?_
  refine nil ?_
  show Code.wp _ _ _ _ _
  refine seq ?_
  refine block ?_
  refine seq ?_
  refine region ?_
  refine sv (fa97_1 rfl) ?_
  refine sv (yLdB rfl Tryz.isAgg3 (hS.at _) rfl) ?_
  refine scall Tryz.call45 (.cons rfl (.cons rfl (.cons rfl .nil))) c_out ?_
  rintro _ w ⟨rfl, hE⟩; replace hS := hS.step hE; clear hE
  refine sv (yAsg rfl) ?_
  refine nil ?_
  show Code.wp _ _ _ _ _
  refine cond rfl (fun c3 => ?_) (fun c3 => ?_)
  ·
    refine seq ?_
    refine region ?_
    refine sv (yAsg rfl) ?_
    refine nil ?_
    show Code.wp _ _ _ _ _
    refine wp_ret (blockR (thenR ?_))
    exact retV (res1 rfl (eqI (by unfold oprE; rw [if_pos c3]))) hS.ext
  ·
    refine seq ?_
    refine region ?_
    refine sv (fa97_2 rfl) ?_
    refine sv (yLdB rfl Tryz.isAgg95 (hS.at _) rfl) ?_
    refine sv (yLen rfl Tryz.underlying95) ?_
    refine sv (yGtr rfl rfl) ?_
    refine sv (yAsg rfl) ?_
    refine nil ?_
    show Code.wp _ _ _ _ _
    refine cond rfl (fun c7 => ?_) (fun c7 => ?_)
    ·
      simp only [Bool.and_eq_true, Bool.or_eq_true, Bool.and_eq_false_iff, Bool.or_eq_false_iff, decide_eq_true_eq, decide_eq_false_iff_not, Bool.not_eq_true, Bool.not_eq_false, Bool.not_not, Bool.not_eq_eq_eq_not, Bool.not_true, Bool.not_false, Bool.false_eq_true, Bool.true_eq_false, ne_eq, Decidable.not_not, not_false_eq_true, not_true_eq_false] at c7
      refine seq ?_
      refine region ?_
      refine sv (yAsg rfl) ?_
      refine nil ?_
      show Code.wp _ _ _ _ _
      refine wp_ret (blockR (thenR ?_))
      exact retV (res1 rfl (eqI (by unfold oprE; rw [if_neg (by rw [c3]; decide), if_pos c7]))) hS.ext
    ·
      simp only [Bool.and_eq_true, Bool.or_eq_true, Bool.and_eq_false_iff, Bool.or_eq_false_iff, decide_eq_true_eq, decide_eq_false_iff_not, Bool.not_eq_true, Bool.not_eq_false, Bool.not_not, Bool.not_eq_eq_eq_not, Bool.not_true, Bool.not_false, Bool.false_eq_true, Bool.true_eq_false, ne_eq, Decidable.not_not, not_false_eq_true, not_true_eq_false] at c7
      refine seq ?_
      refine region ?_
      refine sv (fa97_2 rfl) ?_
      refine sv (yLdB rfl Tryz.isAgg95 (hS.at _) rfl) ?_
      refine scall Tryz.call76 (.cons rfl (.cons rfl .nil)) (c_ContainsSpn (p := spnBad) (cl := []) (hsd.ext RSpn.stays hS.ext) Tryz.call77 (fun x w _ _ => c_operator1)) ?_
      rintro _ w ⟨rfl, hE⟩; replace hS := hS.step hE; clear hE
      refine sv (yAsg rfl) ?_
      refine nil ?_
      show Code.wp _ _ _ _ _
      refine cond rfl (fun c12 => ?_) (fun c12 => ?_)
      ·
        refine seq ?_
        refine region ?_
        refine sv (yAsg rfl) ?_
        refine nil ?_
        show Code.wp _ _ _ _ _
        refine wp_ret (blockR (thenR ?_))
        exact retV (res1 rfl (eqI (by unfold oprE; rw [if_neg (by rw [c3]; decide), if_neg (by omega), if_pos c12]))) hS.ext
      ·
        refine skip ?_
        show Code.wp _ _ _ _ _
        refine seq ?_
        refine region ?_
        refine sv (yAsg rfl) ?_
        refine nil ?_
        show Code.wp _ _ _ _ _
        refine wp_ret ?_
        exact retV (res1 rfl (eqI (by unfold oprE; rw [if_neg (by rw [c3]; decide), if_neg (by omega), if_neg (by rw [c12]; decide)]))) hS.ext
end Go.Proofs.YtghgnofilbnbaaaGreat

/- part Ck3 -/
namespace Go.Proofs.YtghgnofilbnbaaaGreat
open Go Bx
/-- slices.Values   int,int  -/
theorem c_Values {a : Option Addr} {len cap : Nat} {w0 : World} : CE Tryz.prog 82 #[.slice a len cap] w0 (fun u w' => ∃ b, u = .func (.func 95) #[] [.pointer (some ⟨b, 0, none⟩)].toArray ∧ St w0 w' [blk b [.slice a len cap] 37]) := by
  refine enter Tryz.func82 rfl Tryz.ntmps82 rfl ?_
  have hS := St.start w0
  refine seq ?_
  refine region ?_
  refine sbox hS rfl rfl ?_; clear hS; intro b1 w hS
  refine sv (yAsg rfl) ?_
  refine nil ?_
  show Code.wp _ _ _ _ _
  refine seq ?_
  refine region ?_
  refine sv (yFn (.cons rfl .nil)) ?_
  refine sv (yAsg rfl) ?_
  refine nil ?_
  show Code.wp _ _ _ _ _
  refine wp_ret ?_
  refine retQ (res1 rfl rfl) ?_
  exact ⟨b1, rfl, hS⟩
/-- slices.Values   int,int  closure 1 -/
theorem it_Values {l : List Int} {a : Option Addr} {cap b : Nat} {T : TypeId} {w0 : World} (hsl : Sl w0 1 RInt (.slice a l.length cap) l) (hb : w0.heap[b]? = some (.cells [.slice a l.length cap].toArray T (0, 0))) : ItC Tryz.prog 95 [.pointer (some ⟨b, 0, none⟩)] w0 [] Bx.encI l := by
  obtain ⟨a', cap', hv, hcap, hmx, hel⟩ := hsl
  obtain ⟨rfl, rfl⟩ := slice_inj hv.symm
  intro yl Cb w L hY h0 hS
  replace hS : StX [] w0 w L := hS
  refine enterX Tryz.func95 rfl Tryz.ntmps95 rfl ?_
  skip
  refine seqX ?_
  refine regionX rfl ?_
  refine sv (yLd rfl Tryz.isAgg37 (cell_of (hS.ext.get hb) rfl)) ?_
  refine sv (yLen rfl Tryz.underlying37) ?_
  refine sv (yMove rfl) ?_
  refine nil ?_
  show Code.wpIn _ _ _ _ _ _ _
  refine blockX ?_
  refine loopX (fun f w zz => ∃ (k : Nat) (L : List Bx.Item), f 0 = .func (.yield yl) #[] #[] ∧ f 5 = .slice a l.length cap ∧ f 6 = .int .i64 (l.length : Int) ∧ f 7 = .int .i64 (k : Int) ∧ StX [] w0 w (L) ∧ (k ≤ l.length) ∧ (Cb true (l.take k) L) ∧ zz = l.length - k) _ ⟨_, rfl, 0, L, rfl, rfl, rfl, rfl, hS, (Nat.zero_le _), (h0), rfl⟩ ?_
  clear hS
  rintro f w _ ⟨k, L, h0, h5, h6, h7, hS, hk, hcb, rfl⟩
  refine seqX ?_
  refine regionX rfl ?_
  refine sv (yLss h7 h6) ?_
  refine nil ?_
  show Code.wpIn _ _ _ _ _ _ _
  refine seqX ?_
  refine condX rfl (fun c8 => ?_) (fun c8 => ?_)
  ·
    simp only [Bool.and_eq_true, Bool.or_eq_true, Bool.and_eq_false_iff, Bool.or_eq_false_iff, decide_eq_true_eq, decide_eq_false_iff_not, Bool.not_eq_true, Bool.not_eq_false, Bool.not_not, Bool.not_eq_eq_eq_not, Bool.not_true, Bool.not_false, Bool.false_eq_true, Bool.true_eq_false, ne_eq, Decidable.not_not, not_false_eq_true, not_true_eq_false] at c8
    refine skipX ?_
    show Code.wpIn _ _ _ _ _ _ _
    refine seqX ?_
    refine blockX ?_
    refine seqX ?_
    refine regionX rfl ?_
    obtain ⟨x, hx, hd⟩ := drop_of (l := l) (k := k) (by omega)
    obtain ⟨b2, o, cs, ha, hlen, hcs, hR⟩ := hel k (by omega)
    obtain rfl : x = l[k] := (List.getElem?_eq_some_iff.1 hx).2.symm
    generalize l[k] = x at hx hd hR
    obtain ⟨rfl, hi64⟩ := hR
    refine sv (yIxa h5 ha h7 Tryz.runUnderlying37 Tryz.sizeOf3 (by omega) (by omega)) ?_
    refine sv (yLd rfl Tryz.isAgg3 ((hcs.ext hS.ext).one)) ?_
    refine sv (yAsg rfl) ?_
    refine nil ?_
    show Code.wpIn _ _ _ _ _ _ _
    refine seqX ?_
    refine regionL ?_
    refine preX 2 rfl ?_
    refine sv (yMove h0) ?_
    refine sv (yMove rfl) ?_
    refine nil ?_
    show wpListIn _ _ _ _ _ _ _ _
    refine yieldU rfl (.cons rfl .nil) (hY (l.take k) x w L [] (by rw [← take_snoc hx]; exact List.take_prefix _ _) hcb hS) ?_
    clear hS hcb; rintro _ w ⟨bb, L, rfl, hcb, hS⟩
    replace hS : StX [] w0 w L := hS
    refine endX rfl ?_
    refine sv (yNot rfl) ?_
    refine nil ?_
    show Code.wpIn _ _ _ _ _ _ _
    refine condX rfl (fun c14 => ?_) (fun c14 => ?_)
    ·
      skip
      obtain rfl : bb = false := by cases bb; rfl; simp at c14
      refine wpIn_ret (blockR (thenR (thenR (blockR ?_))))
      refine leafX (results_none rfl _ _ _) ?_
      exact ⟨L, hS, .inr ⟨_, hcb⟩⟩
    ·
      skip
      obtain rfl : bb = true := by cases bb; simp at c14; rfl
      refine skipX ?_
      show Code.wpIn _ _ _ _ _ _ _
      refine regionX rfl ?_
      refine sv (yAdd h7 rfl ⟨by omega, by omega⟩) ?_
      refine sv (yMove rfl) ?_
      refine nil ?_
      exact ⟨_, _, rfl, ⟨k + 1, L, h0, h5, h6, rfl, hS, (by omega), (by rw [take_snoc hx]; exact hcb), rfl⟩, by omega⟩
  ·
    simp only [Bool.and_eq_true, Bool.or_eq_true, Bool.and_eq_false_iff, Bool.or_eq_false_iff, decide_eq_true_eq, decide_eq_false_iff_not, Bool.not_eq_true, Bool.not_eq_false, Bool.not_not, Bool.not_eq_eq_eq_not, Bool.not_true, Bool.not_false, Bool.false_eq_true, Bool.true_eq_false, ne_eq, Decidable.not_not, not_false_eq_true, not_true_eq_false] at c8
    refine exitX ?_
    show bodyPostM (FX none) 0 _ _ _ .normal _ _
    refine leafXN (results_none rfl _ _ _) ?_
    obtain rfl : k = l.length := by omega
    rw [List.take_length] at hcb
    exact ⟨L, hS, .inl hcb⟩
set_option maxHeartbeats 1000000 in
/-- slices.AppendSeq   int,int  -/
theorem c_AppendSeq {l : List Int} {g : Nat} {cl : List Value} {w0 : World} (hit : ∀ w', Ext w0 w' → ItC Tryz.prog g cl w' [] Bx.encI l) (eg : ∀ ys w, (callFunc g ys).run Tryz.prog w = .ok (.enter g ys) w) (hrm : Room l.length 8) : CE Tryz.prog 97 #[.slice none 0 0, .func (.func g) #[] cl.toArray] w0 (fun u w' => St w0 w' [rowI u 3 1 (l).length ((l).flatMap Bx.encI)]) := by
  refine enterX Tryz.func97 rfl Tryz.ntmps97 rfl ?_
  have hS := St.start w0
  refine seqX ?_
  refine regionX rfl ?_
  refine sbox hS rfl rfl ?_; clear hS; intro b2 w hS
  refine sv (yAsg rfl) ?_
  refine nil ?_
  show Code.wpIn _ _ _ _ _ _ _
  refine seqX ?_
  refine seqX ?_
  refine regionX rfl ?_
  replace hS := hS.nilrow 3 1
  have hrm8 : l.length * 8 ≤ 140737488351232 := hrm
  refine sv (yMove rfl) ?_
  refine nil ?_
  show Code.wpIn _ _ _ _ _ _ _
  refine blockX ?_
  refine rangeX (R := []) (L0 := [rowI (.slice none 0 0) 3 1 0 [], blk b2 [.slice none 0 0] 37]) (ps := [7]) rfl eg hS (hit w0 (Ext.refl _)) (fun cc pre L => cc = none ∧ ∃ v, L = [rowI v 3 1 (pre).length ((pre).flatMap Bx.encI), blk b2 [v] 37]) ⟨rfl, _, rfl⟩ (fun _ _ => rfl) ?_ ?_ ?_
  ·
    clear hS
    intro yl pre x w L M hpre hcb hS
    obtain ⟨-, v, rfl⟩ := hcb
    have hpl := hpre.length_le
    simp only [List.length_append, List.length_singleton] at hpl
    replace hS : StX [] w0 w (rowI v 3 1 (pre).length ((pre).flatMap Bx.encI) :: blk b2 [v] 37 :: M) := hS
    refine regionX rfl ?_
    refine sv (yAsg rfl) ?_
    refine nil ?_
    refine ⟨_, [rowI v 3 1 (pre).length ((pre).flatMap Bx.encI), blk b2 [v] 37], rfl, hS, ?_⟩
    clear hS M; intro M w hS; replace hS : StX [] w0 w (rowI v 3 1 (pre).length ((pre).flatMap Bx.encI) :: blk b2 [v] 37 :: M) := hS
    refine blockX ?_
    refine regionX rfl ?_
    refine sv (yLdB rfl Tryz.isAgg37 (hS.at _) rfl) ?_
    refine sv (yMove rfl) ?_
    refine sbslice hS Tryz.underlying37 Tryz.sizeOf3 rfl Tryz.zeroValue3 rfl (.cons rfl rfl .nil) rfl ?_; clear hS; intro b10 w hS
    refine sapp (bytes := 8) (size := 1) (v := v) (m := 1) hS rfl rfl Tryz.underlying37 ti3 rfl rfl rfl rfl (by decide) (blk_cells (hS.at _)) rfl rfl (by omega) (by omega) ?_; clear hS; intro v11 w hS
    obtain ⟨gr, capr, rfl, -⟩ := row_some (hS.row v11) (Nat.succ_pos _)
    refine sst hS rfl rfl Tryz.sizeOf37 rfl rfl rfl rfl ?_; clear hS; intro w hS
    refine nil ?_
    exact ⟨_, ⟨rfl, _, rfl⟩, (by rw [List.flatMap_append, List.length_append]; exact hS.sub (.cons _ (List.Sublist.refl _)))⟩
  ·
    clear hS
    intro D w L hcb hS
    obtain ⟨-, v, rfl⟩ := hcb
    replace hS : StX [] w0 w [obj D (.deferred (some [])), rowI v 3 1 (l).length ((l).flatMap Bx.encI), blk b2 [v] 37] := hS
    show Code.wpIn _ _ _ _ _ _ _
    refine seqX ?_
    refine regionX rfl ?_
    refine sv (yLdB rfl Tryz.isAgg37 (hS.at _) rfl) ?_
    refine sv (yAsg rfl) ?_
    refine nil ?_
    show Code.wpIn _ _ _ _ _ _ _
    refine wpIn_ret ?_
    refine leafD hS (fun w hS => (res1 rfl rfl)) (fun w hS => ?_)
    show St w0 w [_]
    exact hS.sub (.cons _ (.cons_cons _ (List.nil_sublist _)))
  ·
    intro D w L c pre hcb hS; exact absurd hcb.1 (by simp)
/-- slices.Collect int  -/
theorem c_Collect {l : List Int} {g : Nat} {cl : List Value} {w0 : World} (hit : ∀ w', Ext w0 w' → ItC Tryz.prog g cl w' [] Bx.encI l) (eg : ∀ ys w, (callFunc g ys).run Tryz.prog w = .ok (.enter g ys) w) (hrm : Room l.length 8) : CE Tryz.prog 93 #[.func (.func g) #[] cl.toArray] w0 (fun u w' => St w0 w' [rowI u 3 1 (l).length ((l).flatMap Bx.encI)]) := by
  refine enter Tryz.func93 rfl Tryz.ntmps93 rfl ?_
  have hS := St.start w0
  refine seq ?_
  refine region ?_
  refine sv (yAsg rfl) ?_
  refine nil ?_
  show Code.wp _ _ _ _ _
  refine seq ?_
  refine region ?_
  refine sv (yMove rfl) ?_
  refine scall Tryz.call97 (.cons rfl (.cons rfl .nil)) (c_AppendSeq (fun w' e => hit w' (hS.ext.trans e)) eg hrm) ?_
  rintro v w hM; replace hS := hS.call1 hM; clear hM
  refine sv (yAsg rfl) ?_
  refine nil ?_
  show Code.wp _ _ _ _ _
  refine wp_ret ?_
  refine retQ (res1 rfl rfl) ?_
  exact hS
/-- slices.Sorted int  -/
theorem c_Sorted {l : List Int} {g : Nat} {cl : List Value} {w0 : World} (hit : ∀ w', Ext w0 w' → ItC Tryz.prog g cl w' [] Bx.encI l) (eg : ∀ ys w, (callFunc g ys).run Tryz.prog w = .ok (.enter g ys) w) (hrm : Room l.length 8) : CE Tryz.prog 81 #[.func (.func g) #[] cl.toArray] w0 (fun u w' => St w0 w' [rowI u 3 1 (sortI l).length ((sortI l).flatMap Bx.encI)]) := by
  refine enter Tryz.func81 rfl Tryz.ntmps81 rfl ?_
  have hS := St.start w0
  refine seq ?_
  refine region ?_
  refine sv (yAsg rfl) ?_
  refine nil ?_
  show Code.wp _ _ _ _ _
  refine seq ?_
  refine region ?_
  refine sv (yMove rfl) ?_
  refine scall Tryz.call93 (.cons rfl .nil) (c_Collect (fun w' e => hit w' (hS.ext.trans e)) eg hrm) ?_
  rintro v w hM; replace hS := hS.call1 hM; clear hM
  have hrm8 : l.length * 8 ≤ 140737488351232 := hrm
  refine sv (yAsg rfl) ?_
  refine nil ?_
  show Code.wp _ _ _ _ _
  refine seq ?_
  refine region ?_
  refine sv (yMove rfl) ?_
  refine scall Tryz.call94 (.cons rfl .nil) (c_Sort (hS.row v) rfl (by omega)) ?_
  rintro _ w ⟨rfl, hG, hR⟩; replace hS := hS.app (v := v) (v' := v) hR hG (.inl rfl); clear hG hR
  refine nil ?_
  show Code.wp _ _ _ _ _
  refine seq ?_
  refine region ?_
  refine sv (yMove rfl) ?_
  refine sv (yAsg rfl) ?_
  refine nil ?_
  show Code.wp _ _ _ _ _
  refine wp_ret ?_
  refine retQ (res1 rfl rfl) ?_
  show St w0 w [_]
  rw [(sortI_perm l).length_eq]
  exact hS
end Go.Proofs.YtghgnofilbnbaaaGreat

/- part Ck4 -/
namespace Go.Proofs.YtghgnofilbnbaaaGreat
open Go Bx
set_option maxHeartbeats 2000000 in
/-- slices.Compact   int,int  -/
theorem c_Compact {l : List Int} {a : Option Addr} {cap : Nat} {w0 : World} (hr : w0.ownsRow 0 3 1 (.slice a l.length cap) l.length (l.flatMap Bx.encI)) (hrm : l.length * 8 ≤ 140737488351232) : CE Tryz.prog 80 #[.slice a l.length cap] w0 (fun u w' => u = .slice a (compL l).length cap ∧ StX (Value.slice a l.length cap).ownBlock.toList w0 w' [rowI (.slice a (compL l).length cap) 3 1 (compL l).length ((compL l).flatMap Bx.encI)]) := by
  refine enter Tryz.func80 rfl Tryz.ntmps80 rfl ?_
  have hS := StX.startR hr
  refine seq ?_
  refine region ?_
  refine sv (yAsg rfl) ?_
  refine nil ?_
  show Code.wp _ _ _ _ _
  refine seq ?_
  refine seq ?_
  refine region ?_
  refine sv (yMove rfl) ?_
  refine sv (yLen rfl Tryz.underlying37) ?_
  refine sv (yLss rfl rfl) ?_
  refine nil ?_
  show Code.wp _ _ _ _ _
  refine cond rfl (fun c8 => ?_) (fun c8 => ?_)
  ·
    simp only [Bool.and_eq_true, Bool.or_eq_true, Bool.and_eq_false_iff, Bool.or_eq_false_iff, decide_eq_true_eq, decide_eq_false_iff_not, Bool.not_eq_true, Bool.not_eq_false, Bool.not_not, Bool.not_eq_eq_eq_not, Bool.not_true, Bool.not_false, Bool.false_eq_true, Bool.true_eq_false, ne_eq, Decidable.not_not, not_false_eq_true, not_true_eq_false] at c8
    have hfl := compL_short c8
    refine seq ?_
    refine region ?_
    refine sv (yMove rfl) ?_
    refine sv (yAsg rfl) ?_
    refine nil ?_
    show Code.wp _ _ _ _ _
    refine wp_ret (thenR ?_)
    refine retQ (res1 rfl rfl) ?_
    rw [hfl]
    exact ⟨rfl, hS⟩
  ·
    simp only [Bool.and_eq_true, Bool.or_eq_true, Bool.and_eq_false_iff, Bool.or_eq_false_iff, decide_eq_true_eq, decide_eq_false_iff_not, Bool.not_eq_true, Bool.not_eq_false, Bool.not_not, Bool.not_eq_eq_eq_not, Bool.not_true, Bool.not_false, Bool.false_eq_true, Bool.true_eq_false, ne_eq, Decidable.not_not, not_false_eq_true, not_true_eq_false] at c8
    obtain ⟨gb, rfl, -⟩ := row_get (hS.row (.slice a l.length cap)) (by omega)
    have hcap : l.length ≤ cap := by
      obtain ⟨g2, c2, e2, h2, -⟩ := row_some (hS.row (.slice (some ⟨gb, 0, none⟩) l.length cap)) (by omega)
      obtain ⟨-, rfl⟩ := slice_inj e2
      exact h2
    refine skip ?_
    show Code.wp _ _ _ _ _
    refine seq ?_
    refine seq ?_
    refine region ?_
    refine sv (yAsg rfl) ?_
    refine nil ?_
    show Code.wp _ _ _ _ _
    refine block ?_
    refine loop (fun f w zz => ∃ (k : Nat), f 0 = .slice (some ⟨gb, 0, none⟩) l.length cap ∧ f 3 = .int .i64 (k : Int) ∧ StX (Value.slice (some ⟨gb, 0, none⟩) l.length cap).ownBlock.toList w0 w ([rowI (.slice (some ⟨gb, 0, none⟩) l.length cap) 3 1 l.length ((l).flatMap Bx.encI)]) ∧ (1 ≤ k ∧ k ≤ l.length) ∧ (compL l = l.take k ++ compR (l.getD (k - 1) 0) (l.drop k)) ∧ zz = l.length - k) _ ⟨_, rfl, 1, rfl, rfl, hS, (⟨Nat.le_refl _, by omega⟩), (compL_one (by omega)), rfl⟩ ?_
    clear hS
    rintro f w _ ⟨k, h0, h3, hS, hk, hI, rfl⟩
    refine seq ?_
    refine seq ?_
    refine region ?_
    refine sv (yMove h3) ?_
    refine sv (yMove h0) ?_
    refine sv (yLen rfl Tryz.underlying37) ?_
    refine sv (yLss rfl rfl) ?_
    refine nil ?_
    show Code.wp _ _ _ _ _
    refine cond rfl (fun c13 => ?_) (fun c13 => ?_)
    ·
      simp only [Bool.and_eq_true, Bool.or_eq_true, Bool.and_eq_false_iff, Bool.or_eq_false_iff, decide_eq_true_eq, decide_eq_false_iff_not, Bool.not_eq_true, Bool.not_eq_false, Bool.not_not, Bool.not_eq_eq_eq_not, Bool.not_true, Bool.not_false, Bool.false_eq_true, Bool.true_eq_false, ne_eq, Decidable.not_not, not_false_eq_true, not_true_eq_false] at c13
      obtain ⟨x, hx, hd⟩ := drop_of (l := l) (k := k) (by omega)
      obtain ⟨y, hy, -⟩ := drop_of (l := l) (k := k - 1) (by omega)
      refine skip ?_
      show Code.wp _ _ _ _ _
      refine seq ?_
      refine block ?_
      refine seq ?_
      refine region_draw mixed (by kernel_rfl) hS ?_
      refine qv (fun w hS => (yMove h0)) ?_
      refine qv (fun w hS => (yMove h3)) ?_
      refine qv (fun w hS => (yIx0 (m := k) rfl rfl Tryz.runUnderlying37 Tryz.sizeOf3 (by omega))) ?_
      refine qv (fun w hS => (yLd rfl Tryz.isAgg3 ((flat_cells0 (enc := Bx.encI) encI_len (row_at (hS.row (.slice (some ⟨gb, 0, none⟩) l.length cap)) rfl (by omega)) hx).one))) ?_
      refine qv (fun w hS => (yMove h0)) ?_
      refine qv (fun w hS => (yMove h3)) ?_
      refine qv (fun w hS => (Y.to (ySub rfl rfl ⟨by omega, by omega⟩) (show Value.int .i64 _ = .int .i64 ((k - 1 : Nat) : Int) by congr 1; omega))) ?_
      refine qv (fun w hS => (yIx0 (m := k - 1) rfl rfl Tryz.runUnderlying37 Tryz.sizeOf3 (by omega))) ?_
      refine qv (fun w hS => (yLd rfl Tryz.isAgg3 ((flat_cells0 (enc := Bx.encI) encI_len (row_at (hS.row (.slice (some ⟨gb, 0, none⟩) l.length cap)) rfl (by omega)) hy).one))) ?_
      refine qv (fun w hS => (yEql rfl rfl)) ?_
      clear hS; refine qnil (fun w hS => ?_)
      show Code.wp _ _ _ _ _
      refine cond rfl (fun c25 => ?_) (fun c25 => ?_)
      ·
        simp only [Bool.and_eq_true, Bool.or_eq_true, Bool.and_eq_false_iff, Bool.or_eq_false_iff, decide_eq_true_eq, decide_eq_false_iff_not, Bool.not_eq_true, Bool.not_eq_false, Bool.not_not, Bool.not_eq_eq_eq_not, Bool.not_true, Bool.not_false, Bool.false_eq_true, Bool.true_eq_false, ne_eq, Decidable.not_not, not_false_eq_true, not_true_eq_false] at c25
        refine seq ?_
        refine region ?_
        refine sv (yMove h0) ?_
        refine sv (yMove h3) ?_
        refine sv (yFrom (i := k) rfl rfl Tryz.underlying37 Tryz.sizeOf3 (by omega) (by omega)) ?_
        refine sv (yAsg rfl) ?_
        refine nil ?_
        show Code.wp _ _ _ _ _
        refine seq ?_
        refine seq ?_
        refine region ?_
        refine sv (yAsg rfl) ?_
        refine nil ?_
        show Code.wp _ _ _ _ _
        refine block ?_
        have htl : (l.take k).length = k := by simp; omega
        refine loop (fun f w zz => ∃ (ks js : List Int) (j : Nat), f 0 = .slice (some ⟨gb, 0, none⟩) l.length cap ∧ f 3 = .int .i64 (ks.length : Int) ∧ f 4 = .slice (some ⟨gb, 0 + k * 1, none⟩) (l.length - k) (cap - k) ∧ f 5 = .int .i64 ((j - k : Nat) : Int) ∧ StX (Value.slice (some ⟨gb, 0, none⟩) l.length cap).ownBlock.toList w0 w ([rowI (.slice (some ⟨gb, 0, none⟩) l.length cap) 3 1 l.length ((ks ++ js ++ l.drop j).flatMap Bx.encI)]) ∧ (k < j ∧ j ≤ l.length) ∧ (ks.length + js.length = j) ∧ (js ≠ []) ∧ ((ks ++ js)[j - 1]? = l[j - 1]?) ∧ (compL l = ks ++ compR (l.getD (j - 1) 0) (l.drop j)) ∧ zz = l.length - j) _ ⟨_, rfl, l.take k, [x], k + 1, h0, (by rw [htl]; exact h3), rfl, (by rw [show k + 1 - k = 1 by omega]; exact rfl), (by rw [cut_at hx]; exact hS), (⟨by omega, by omega⟩), (by rw [htl]; rfl), (by simp), (by rw [List.getElem?_append_right (by rw [htl]; omega), htl, Nat.add_sub_cancel, Nat.sub_self, hx]; rfl), (by rw [hI, hd, getD_of hy, compR, if_pos c25, Nat.add_sub_cancel, getD_of hx, c25]), rfl⟩ ?_
        clear hS
        rintro f w _ ⟨ks, js, j, h0, h3, h4, h5, hS, hj, hl, hne, hla, hI2, rfl⟩
        refine seq ?_
        refine seq ?_
        refine region ?_
        refine sv (yMove h5) ?_
        refine sv (yMove h4) ?_
        refine sv (yLen rfl Tryz.underlying37) ?_
        refine sv (yLss rfl rfl) ?_
        refine nil ?_
        show Code.wp _ _ _ _ _
        refine cond rfl (fun c32 => ?_) (fun c32 => ?_)
        ·
          simp only [Bool.and_eq_true, Bool.or_eq_true, Bool.and_eq_false_iff, Bool.or_eq_false_iff, decide_eq_true_eq, decide_eq_false_iff_not, Bool.not_eq_true, Bool.not_eq_false, Bool.not_not, Bool.not_eq_eq_eq_not, Bool.not_true, Bool.not_false, Bool.false_eq_true, Bool.true_eq_false, ne_eq, Decidable.not_not, not_false_eq_true, not_true_eq_false] at c32
          obtain ⟨z, hz, hdz⟩ := drop_of (l := l) (k := j) (by omega)
          obtain ⟨u, hu, -⟩ := drop_of (l := l) (k := j - 1) (by omega)
          have hml := (mid_last hl hne hla).trans hu
          have hmz := mid_get hl hz
          have hjp := List.length_pos_iff.2 hne
          refine skip ?_
          show Code.wp _ _ _ _ _
          refine seq ?_
          refine block ?_
          refine seq ?_
          refine region_draw mixed (by kernel_rfl) hS ?_
          refine qv (fun w hS => (yMove h4)) ?_
          refine qv (fun w hS => (yMove h5)) ?_
          refine qv (fun w hS => (Y.to (yIxa rfl rfl rfl Tryz.runUnderlying37 Tryz.sizeOf3 (by omega) (by omega)) (show Value.pointer (some ⟨gb, 0 + k * 1 + (j - k) * 1, none⟩) = .pointer (some ⟨gb, (j) * 1, none⟩) by rw [show 0 + k * 1 + (j - k) * 1 = (j) * 1 by omega]))) ?_
          refine qv (fun w hS => (yLd rfl Tryz.isAgg3 ((flat_cells0 (enc := Bx.encI) encI_len (row_at (hS.row (.slice (some ⟨gb, 0, none⟩) l.length cap)) rfl (by omega)) hmz).one))) ?_
          refine qv (fun w hS => (yMove h4)) ?_
          refine qv (fun w hS => (yMove h5)) ?_
          refine qv (fun w hS => (Y.to (ySub rfl rfl ⟨by omega, by omega⟩) (show Value.int .i64 _ = .int .i64 ((j - k - 1 : Nat) : Int) by congr 1; omega))) ?_
          refine qv (fun w hS => (Y.to (yIxa rfl rfl rfl Tryz.runUnderlying37 Tryz.sizeOf3 (by omega) (by omega)) (show Value.pointer (some ⟨gb, 0 + k * 1 + (j - k - 1) * 1, none⟩) = .pointer (some ⟨gb, (j - 1) * 1, none⟩) by rw [show 0 + k * 1 + (j - k - 1) * 1 = (j - 1) * 1 by omega]))) ?_
          refine qv (fun w hS => (yLd rfl Tryz.isAgg3 ((flat_cells0 (enc := Bx.encI) encI_len (row_at (hS.row (.slice (some ⟨gb, 0, none⟩) l.length cap)) rfl (by omega)) hml).one))) ?_
          refine qv (fun w hS => (yNeq rfl rfl)) ?_
          clear hS; refine qnil (fun w hS => ?_)
          show Code.wp _ _ _ _ _
          refine cond rfl (fun c44 => ?_) (fun c44 => ?_)
          ·
            simp only [Bool.and_eq_true, Bool.or_eq_true, Bool.and_eq_false_iff, Bool.or_eq_false_iff, decide_eq_true_eq, decide_eq_false_iff_not, Bool.not_eq_true, Bool.not_eq_false, Bool.not_not, Bool.not_eq_eq_eq_not, Bool.not_true, Bool.not_false, Bool.false_eq_true, Bool.true_eq_false, ne_eq, Decidable.not_not, not_false_eq_true, not_true_eq_false] at c44
            refine seq ?_
            refine region ?_
            refine sv (yMove h0) ?_
            refine sv (yMove h3) ?_
            refine sv (yMove h4) ?_
            refine sv (yMove h5) ?_
            refine sv (Y.to (yIxa rfl rfl rfl Tryz.runUnderlying37 Tryz.sizeOf3 (by omega) (by omega)) (show Value.pointer (some ⟨gb, 0 + k * 1 + (j - k) * 1, none⟩) = .pointer (some ⟨gb, (j) * 1, none⟩) by rw [show 0 + k * 1 + (j - k) * 1 = (j) * 1 by omega])) ?_
            refine sv (yLd rfl Tryz.isAgg3 ((flat_cells0 (enc := Bx.encI) encI_len (row_at (hS.row (.slice (some ⟨gb, 0, none⟩) l.length cap)) rfl (by omega)) hmz).one)) ?_
            refine sv (yIx0 (m := ks.length) rfl rfl Tryz.runUnderlying37 Tryz.sizeOf3 (by omega)) ?_
            refine srst (m := l.length) (cap := cap) (sz := 1) hS rfl rfl Tryz.sizeOf3 rfl rfl (by omega) rfl ?_; clear hS; intro w hS
            refine nil ?_
            show Code.wp _ _ _ _ _
            refine region ?_
            refine sv (yMove h3) ?_
            refine sv (yAdd rfl rfl ⟨by omega, by omega⟩) ?_
            refine sv (yAsg rfl) ?_
            refine nil ?_
            show Code.wp _ _ _ _ _
            refine region ?_
            refine sv (yMove h5) ?_
            refine sv (yAdd rfl rfl ⟨by omega, by omega⟩) ?_
            refine sv (yAsg rfl) ?_
            refine nil ?_
            exact ⟨_, _, rfl, ⟨ks ++ [z], js.tail ++ [z], j + 1, h0, (by rw [List.length_append]; exact rfl), h4, (by rw [show j + 1 - k = (j - k) + 1 by omega]; exact rfl), (by rw [gap_outI hz hne]; exact hS), (⟨by omega, by omega⟩), (by simp; have := List.length_pos_iff.2 hne; omega), (by simp), (last_out hz hl hne), (by rw [hI2, hdz, getD_of hu, compR, if_neg c44, Nat.add_sub_cancel, getD_of hz, List.append_assoc]; rfl), rfl⟩, by omega⟩
          ·
            simp only [Bool.and_eq_true, Bool.or_eq_true, Bool.and_eq_false_iff, Bool.or_eq_false_iff, decide_eq_true_eq, decide_eq_false_iff_not, Bool.not_eq_true, Bool.not_eq_false, Bool.not_not, Bool.not_eq_eq_eq_not, Bool.not_true, Bool.not_false, Bool.false_eq_true, Bool.true_eq_false, ne_eq, Decidable.not_not, not_false_eq_true, not_true_eq_false] at c44
            refine skip ?_
            show Code.wp _ _ _ _ _
            refine region ?_
            refine sv (yMove h5) ?_
            refine sv (yAdd rfl rfl ⟨by omega, by omega⟩) ?_
            refine sv (yAsg rfl) ?_
            refine nil ?_
            exact ⟨_, _, rfl, ⟨ks, js ++ [z], j + 1, h0, h3, h4, (by rw [show j + 1 - k = (j - k) + 1 by omega]; exact rfl), (by rw [gap_in hz]; exact hS), (⟨by omega, by omega⟩), (by simp; omega), (by simp), (last_in hz hl), (by rw [hI2, hdz, getD_of hu, compR, if_pos c44, Nat.add_sub_cancel, getD_of hz, c44]), rfl⟩, by omega⟩
        ·
          simp only [Bool.and_eq_true, Bool.or_eq_true, Bool.and_eq_false_iff, Bool.or_eq_false_iff, decide_eq_true_eq, decide_eq_false_iff_not, Bool.not_eq_true, Bool.not_eq_false, Bool.not_not, Bool.not_eq_eq_eq_not, Bool.not_true, Bool.not_false, Bool.false_eq_true, Bool.true_eq_false, ne_eq, Decidable.not_not, not_false_eq_true, not_true_eq_false] at c32
          obtain rfl : j = l.length := by omega
          have hjp := List.length_pos_iff.2 hne
          rw [List.drop_length] at hI2
          have hfl : compL l = ks := by rw [hI2]; simp [compR]
          refine exit ?_
          show Code.wp _ _ _ _ _
          refine seq ?_
          refine region ?_
          refine sv (yMove h0) ?_
          refine sv (yMove h3) ?_
          refine sv (yTail rfl rfl Tryz.underlying37 Tryz.sizeOf3 (by omega)) ?_
          refine sclear (i := ks.length) (m := l.length) hS rfl Tryz.underlying37 Tryz.zeroValue3 rfl (by decide) (by decide) (by omega) ?_; clear hS; intro w hS
          refine nil ?_
          show Code.wp _ _ _ _ _
          refine seq ?_
          refine region ?_
          refine sv (yMove h0) ?_
          refine sv (yMove h3) ?_
          refine sv (yHead ⟨_, rfl⟩ rfl rfl Tryz.underlying37 Tryz.sizeOf3 (by omega)) ?_
          refine sv (yAsg rfl) ?_
          refine nil ?_
          show Code.wp _ _ _ _ _
          refine wp_ret (blockR (thenR (thenR (blockR (thenR ?_)))))
          refine retQ (res1 rfl rfl) ?_
          rw [hfl]
          rw [List.append_assoc, take_flatI] at hS
          exact ⟨rfl, hS⟩
      ·
        simp only [Bool.and_eq_true, Bool.or_eq_true, Bool.and_eq_false_iff, Bool.or_eq_false_iff, decide_eq_true_eq, decide_eq_false_iff_not, Bool.not_eq_true, Bool.not_eq_false, Bool.not_not, Bool.not_eq_eq_eq_not, Bool.not_true, Bool.not_false, Bool.false_eq_true, Bool.true_eq_false, ne_eq, Decidable.not_not, not_false_eq_true, not_true_eq_false] at c25
        refine skip ?_
        show Code.wp _ _ _ _ _
        refine region ?_
        refine sv (yMove h3) ?_
        refine sv (yAdd rfl rfl ⟨by omega, by omega⟩) ?_
        refine sv (yAsg rfl) ?_
        refine nil ?_
        exact ⟨_, _, rfl, ⟨k + 1, h0, rfl, hS, (⟨by omega, by omega⟩), (by rw [hI, hd, getD_of hy, compR, if_neg c25, take_snoc hx, List.append_assoc, Nat.add_sub_cancel, getD_of hx]; rfl), rfl⟩, by omega⟩
    ·
      simp only [Bool.and_eq_true, Bool.or_eq_true, Bool.and_eq_false_iff, Bool.or_eq_false_iff, decide_eq_true_eq, decide_eq_false_iff_not, Bool.not_eq_true, Bool.not_eq_false, Bool.not_not, Bool.not_eq_eq_eq_not, Bool.not_true, Bool.not_false, Bool.false_eq_true, Bool.true_eq_false, ne_eq, Decidable.not_not, not_false_eq_true, not_true_eq_false] at c13
      obtain rfl : k = l.length := by omega
      rw [List.take_length, List.drop_length] at hI
      have hfl : compL l = l := by rw [hI]; simp [compR]
      refine exit ?_
      show Code.wp _ _ _ _ _
      refine seq ?_
      refine region ?_
      refine sv (yMove h0) ?_
      refine sv (yAsg rfl) ?_
      refine nil ?_
      show Code.wp _ _ _ _ _
      refine wp_ret ?_
      refine retQ (res1 rfl rfl) ?_
      rw [hfl]
      exact ⟨rfl, hS⟩
end Go.Proofs.YtghgnofilbnbaaaGreat

/- part Ck5 -/
namespace Go.Proofs.YtghgnofilbnbaaaGreat
open Go Bx
/-- barrage/crew.kind closure 1 -/
theorem c_kind1 {x nk : Int} {b : Nat} {T : TypeId} {w0 : World} (hb : w0.heap[b]? = some (.cells [.int .i64 nk].toArray T (0, 0))) (hn : 0 ≤ nk ∧ nk ≤ 9223372036854775807) : CV Tryz.prog 79 #[.int .i64 x, .pointer (some ⟨b, 0, none⟩)] w0 (.bool (outB x 0 (nk - 1))) := by
  refine enter Tryz.func79 rfl Tryz.ntmps79 rfl ?_
  have hS := St.start w0
  refine seq ?_
  refine region ?_
  refine sv (yAsg rfl) ?_
  refine nil ?_
  show Code.wp _ _ _ _ _
  refine seq ?_
  refine region ?_
  refine sv (yMove rfl) ?_
  refine sv (yLdB rfl Tryz.isAgg3 (hS.ext.get hb) rfl) ?_
  refine sv (ySub rfl rfl ⟨by omega, by omega⟩) ?_
  refine scall Tryz.call45 (.cons rfl (.cons rfl (.cons rfl .nil))) c_out ?_
  rintro _ w ⟨rfl, hE⟩; replace hS := hS.step hE; clear hE
  refine sv (yAsg rfl) ?_
  refine nil ?_
  show Code.wp _ _ _ _ _
  refine wp_ret ?_
  exact retV (res1 rfl rfl) hS.ext
set_option maxHeartbeats 1000000 in
/-- barrage/crew.kind -/
theorem c_kind {k : Knd} {cs : List Value} {nk : Int} {w0 : World} (h : RKnd w0 cs k) (hnk : 0 ≤ nk ∧ nk ≤ 9223372036854775807) : CV Tryz.prog 59 #[.agg cs.toArray, .int .i64 nk] w0 (.int .i64 (kndE nk k)) := by
  obtain ⟨kv, rfl, hnm, hgr, hse, hwi, hsk, hrm⟩ := id h
  obtain ⟨a, cap, rfl, hcap, hmx, hel⟩ := id hsk
  have hrm8 : k.keys.length * 8 ≤ 140737488351232 := hrm
  refine enter Tryz.func59 rfl Tryz.ntmps59 rfl ?_
  have hS := St.start w0
  refine seq ?_
  refine region ?_
  refine sbox hS rfl rfl ?_; clear hS; intro b2 w hS
  refine sbox hS rfl rfl ?_; clear hS; intro b3 w hS
  refine sv (yAsg rfl) ?_
  refine nil ?_
  show Code.wp _ _ _ _ _
  refine seq ?_
  refine region ?_
  refine sv (fa92_2 rfl) ?_
  refine sv (yLdB rfl Tryz.isAgg3 (hS.at _) rfl) ?_
  refine sv (yEql rfl rfl) ?_
  refine sv (yAsg rfl) ?_
  refine nil ?_
  show Code.wp _ _ _ _ _
  refine seq ?_
  refine block ?_
  refine seq ?_
  refine region ?_
  refine sv (fa92_1 rfl) ?_
  refine sv (yLdB rfl Tryz.isAgg3 (hS.at _) rfl) ?_
  refine scall Tryz.call45 (.cons rfl (.cons rfl (.cons rfl .nil))) c_out ?_
  rintro _ w ⟨rfl, hE⟩; replace hS := hS.step hE; clear hE
  refine sv (yMove rfl) ?_
  refine sg rfl rfl rfl (fun g => (fa92_2 rfl)) (fun v14 g14 => ?_)
  refine sg rfl rfl rfl (fun g => (yLdB (g14.1 g) Tryz.isAgg3 (hS.at _) rfl)) (fun v15 g15 => ?_)
  refine sgc hS rfl rfl rfl Tryz.call45 (fun g => (.cons (g15.1 g) (.cons rfl (.cons rfl .nil)))) (fun g => c_out) ?_; clear hS; intro v16 w hS g16
  refine sv (yOr rfl rfl (fun hB => (g16.1 hB))) ?_
  refine sv (yMove rfl) ?_
  refine sg rfl rfl rfl (fun g => (fa92_3 rfl)) (fun v19 g19 => ?_)
  refine sg rfl rfl rfl (fun g => (yLdB (g19.1 g) Tryz.isAgg3 (hS.at _) rfl)) (fun v20 g20 => ?_)
  refine sgc hS rfl rfl rfl Tryz.call45 (fun g => (.cons (g20.1 g) (.cons rfl (.cons rfl .nil)))) (fun g => c_out) ?_; clear hS; intro v21 w hS g21
  refine sv (yOr rfl rfl (fun hB => (g21.1 hB))) ?_
  refine sv (yMove rfl) ?_
  refine sg rfl rfl rfl (fun g => (yMove rfl)) (fun v24 g24 => ?_)
  refine sg rfl rfl rfl (fun g => (yMove (g24.1 g))) (fun v25 g25 => ?_)
  refine sgg rfl rfl g25 (fun g => (fa92_3 rfl)) (fun v26 g26 => ?_)
  refine sgg rfl rfl g25 (fun g => (yLdB (g26.1 g) Tryz.isAgg3 (hS.at _) rfl)) (fun v27 g27 => ?_)
  refine sgg rfl rfl g25 (fun g => (yGtr (g27.1 g) rfl)) (fun v28 g28 => ?_)
  refine sg rfl rfl rfl (fun g => (yAnd (g25.1 g) (fun hB => (g28.1 ⟨g, hB⟩)) rfl)) (fun v29 g29 => ?_)
  refine sv (yOr rfl rfl (fun hB => (g29.1 hB))) ?_
  refine sv (yAsg rfl) ?_
  refine nil ?_
  show Code.wp _ _ _ _ _
  refine cond rfl (fun c9 => ?_) (fun c9 => ?_)
  ·
    refine seq ?_
    refine region ?_
    refine sv (yAsg rfl) ?_
    refine nil ?_
    show Code.wp _ _ _ _ _
    refine wp_ret (blockR (thenR ?_))
    exact retV (res1 rfl (eqI (by unfold kndE; rw [if_pos (show kndR k = true from c9)]))) hS.ext
  ·
    refine seq ?_
    refine region ?_
    refine sv (fa92_4 rfl) ?_
    refine sv (yLdB rfl Tryz.isAgg37 (hS.at _) rfl) ?_
    refine sv (yFn (.cons rfl .nil)) ?_
    refine scall Tryz.call78 (.cons rfl (.cons rfl .nil)) (c_ContainsFuncInt (p := fun x => outB x 0 (nk - 1)) (cl := [.pointer (some ⟨b3, 0, none⟩)]) (hsk.ext RInt.stays hS.ext) Tryz.call79 (fun x cs w _ e hR => c_kind1 (e.get (hS.at b3)) hnk)) ?_
    rintro _ w ⟨rfl, hE⟩; replace hS := hS.step hE; clear hE
    refine sv (yAsg rfl) ?_
    refine nil ?_
    show Code.wp _ _ _ _ _
    refine cond rfl (fun c31 => ?_) (fun c31 => ?_)
    ·
      refine seq ?_
      refine region ?_
      refine sv (yAsg rfl) ?_
      refine nil ?_
      show Code.wp _ _ _ _ _
      refine wp_ret (blockR (thenR ?_))
      exact retV (res1 rfl (eqI (by unfold kndE; rw [if_neg (by rw [show kndR k = false from c9]; decide), if_pos c31]))) hS.ext
    ·
      refine seq ?_
      refine region_mix (fun w => StX [] w0 w [blk b3 [.int .i64 nk] 3, blk b2 [.string k.name, .int .i64 k.grade, .int .i64 k.second, .int .i64 k.within, .slice a k.keys.length cap, .bool k.split] 92]) 11 mixed hS ?_
      clear hS; intro w hS
      refine f_step 0 (by kernel_rfl) rfl (fun c a a' w h => by obtain ⟨_, v, hv, _⟩ := h; cases hv) (by first | exact hS | exact hS.sub (.cons _ (List.Sublist.refl _)) | exact hS.sub (.cons _ (.cons _ (List.Sublist.refl _)))) (fun w hS => (fa92_4 rfl)) ?_
      refine f_step 1 (by kernel_rfl) rfl (fun c a a' w h => by obtain ⟨_, v, hv, _⟩ := h; cases hv) (by first | exact hS | exact hS.sub (.cons _ (List.Sublist.refl _)) | exact hS.sub (.cons _ (.cons _ (List.Sublist.refl _)))) (fun w hS => (yLdB rfl Tryz.isAgg37 (hS.at _) rfl)) ?_
      refine f_step 6 (by kernel_rfl) rfl (fun c a a' w h => by obtain ⟨_, v, hv, _⟩ := h; cases hv) (by first | exact hS | exact hS.sub (.cons _ (List.Sublist.refl _)) | exact hS.sub (.cons _ (.cons _ (List.Sublist.refl _)))) (fun w hS => (fa92_4 rfl)) ?_
      refine f_step 7 (by kernel_rfl) rfl (fun c a a' w h => by obtain ⟨_, v, hv, _⟩ := h; cases hv) (by first | exact hS | exact hS.sub (.cons _ (List.Sublist.refl _)) | exact hS.sub (.cons _ (.cons _ (List.Sublist.refl _)))) (fun w hS => (yLdB rfl Tryz.isAgg37 (hS.at _) rfl)) ?_
      refine f_step 8 (by kernel_rfl) rfl (fun c a a' w h => by obtain ⟨_, v, hv, _⟩ := h; cases hv) (by first | exact hS | exact hS.sub (.cons _ (List.Sublist.refl _)) | exact hS.sub (.cons _ (.cons _ (List.Sublist.refl _)))) (fun w hS => (yLen rfl Tryz.underlying37)) ?_
      show wpA _ _ _ _ _ _ _ _ _ _
      refine a_step (i := 2) (is := []) (by kernel_rfl) ⟨?_, trivial⟩
      refine ⟨_, rfl, ?_⟩
      refine scall Tryz.call82 (.cons rfl .nil) c_Values ?_
      rintro _ w ⟨bv, rfl, hM⟩; replace hS := hS.call1 hM; clear hM
      refine nil ?_
      refine ⟨fun _ => (by first | exact hS | exact hS.sub (.cons _ (List.Sublist.refl _)) | exact hS.sub (.cons _ (.cons _ (List.Sublist.refl _)))), ?_⟩
      show wpA _ _ _ _ _ _ _ _ _ _
      show wpA _ _ _ _ _ _ _ _ _ _
      refine a_step (i := 3) (is := []) (by kernel_rfl) ⟨?_, trivial⟩
      refine ⟨_, rfl, ?_⟩
      refine scall Tryz.call81 (.cons rfl .nil) (c_Sorted (fun w' e => it_Values ((hsk.ext RInt.stays hS.ext).ext RInt.stays e) (e.get (hS.at bv))) Tryz.call95 hrm) ?_
      rintro sv w hM; replace hS := hS.call1 hM; clear hM
      obtain ⟨av, cv, rfl⟩ := row_shape (hS.row sv)
      have hsl := (sortI_perm k.keys).length_eq
      refine nil ?_
      refine ⟨fun _ => (by first | exact hS | exact hS.sub (.cons _ (List.Sublist.refl _)) | exact hS.sub (.cons _ (.cons _ (List.Sublist.refl _)))), ?_⟩
      show wpA _ _ _ _ _ _ _ _ _ _
      show wpA _ _ _ _ _ _ _ _ _ _
      refine a_step (i := 4) (is := []) (by kernel_rfl) ⟨?_, trivial⟩
      refine ⟨_, rfl, ?_⟩
      refine scall Tryz.call80 (.cons rfl .nil) (c_Compact (hS.row (.slice av (sortI k.keys).length cv)) (by rw [(sortI_perm k.keys).length_eq]; exact hrm8)) ?_
      rintro u w ⟨hu, hM⟩
      have hu2 : u = .slice av (compL (sortI k.keys)).length cv := hu
      subst hu2
      clear hu
      replace hS := hS.app (v := .slice av (sortI k.keys).length cv) (v' := .slice av (compL (sortI k.keys)).length cv) (hM.row _) hM.grown (.inl own_slice)
      clear hM
      refine nil ?_
      refine ⟨fun _ => (by first | exact hS | exact hS.sub (.cons _ (List.Sublist.refl _)) | exact hS.sub (.cons _ (.cons _ (List.Sublist.refl _)))), ?_⟩
      show wpA _ _ _ _ _ _ _ _ _ _
      refine f_step 5 (by kernel_rfl) rfl (fun c a a' w h => by obtain ⟨_, v, hv, _⟩ := h; cases hv) (by first | exact hS | exact hS.sub (.cons _ (List.Sublist.refl _)) | exact hS.sub (.cons _ (.cons _ (List.Sublist.refl _)))) (fun w hS => (yLen rfl Tryz.underlying37)) ?_
      refine f_step 9 (by kernel_rfl) rfl (fun c a a' w h => by obtain ⟨_, v, hv, _⟩ := h; cases hv) (by first | exact hS | exact hS.sub (.cons _ (List.Sublist.refl _)) | exact hS.sub (.cons _ (.cons _ (List.Sublist.refl _)))) (fun w hS => (yLss rfl rfl)) ?_
      refine f_step 10 (by kernel_rfl) rfl (fun c a a' w h => by obtain ⟨_, v, hv, _⟩ := h; cases hv) (by first | exact hS | exact hS.sub (.cons _ (List.Sublist.refl _)) | exact hS.sub (.cons _ (.cons _ (List.Sublist.refl _)))) (fun w hS => (yAsg rfl)) ?_
      refine a_end (by kernel_rfl) ?_
      show Code.wp _ _ _ _ _
      refine cond rfl (fun c36 => ?_) (fun c36 => ?_)
      ·
        have c36 : (compL (sortI k.keys)).length < k.keys.length := by have := of_decide_eq_true c36; omega
        refine seq ?_
        refine region ?_
        refine sv (yAsg rfl) ?_
        refine nil ?_
        show Code.wp _ _ _ _ _
        refine wp_ret (blockR (thenR ?_))
        exact retV (res1 rfl (eqI (by unfold kndE; rw [if_neg (by rw [show kndR k = false from c9]; decide), if_neg (by rw [c31]; decide), if_pos ((comp_sort k.keys).1 c36)]))) hS.ext
      ·
        have c36 : ¬ (compL (sortI k.keys)).length < k.keys.length := by have := of_decide_eq_false c36; omega
        refine seq ?_
        refine region ?_
        refine sv (fa92_5 rfl) ?_
        refine sv (yLdB rfl Tryz.isAgg4 (hS.at _) rfl) ?_
        refine sv (yMove rfl) ?_
        refine sg rfl rfl rfl (fun g => (yMove rfl)) (fun v51 g51 => ?_)
        refine sg rfl rfl rfl (fun g => (yMove (g51.1 g))) (fun v52 g52 => ?_)
        refine sgg rfl rfl g52 (fun g => (fa92_4 rfl)) (fun v53 g53 => ?_)
        refine sgg rfl rfl g52 (fun g => (yLdB (g53.1 g) Tryz.isAgg37 (hS.at _) rfl)) (fun v54 g54 => ?_)
        refine sgg rfl rfl g52 (fun g => (yLen (g54.1 g) Tryz.underlying37)) (fun v55 g55 => ?_)
        refine sgg rfl rfl g52 (fun g => (yLss (g55.1 g) rfl)) (fun v56 g56 => ?_)
        refine sg rfl rfl rfl (fun g => (yOr (g52.1 g) rfl (fun hB => (g56.1 ⟨g, hB⟩)))) (fun v57 g57 => ?_)
        refine sv (yAnd rfl (fun hB => (g57.1 hB)) rfl) ?_
        refine sv (yAsg rfl) ?_
        refine nil ?_
        show Code.wp _ _ _ _ _
        refine cond rfl (fun c47 => ?_) (fun c47 => ?_)
        ·
          refine seq ?_
          refine region ?_
          refine sv (yAsg rfl) ?_
          refine nil ?_
          show Code.wp _ _ _ _ _
          refine wp_ret (blockR (thenR ?_))
          exact retV (res1 rfl (eqI (by unfold kndE; rw [if_neg (by rw [show kndR k = false from c9]; decide), if_neg (by rw [c31]; decide), if_neg (fun h => c36 ((comp_sort k.keys).2 h)), if_pos (show kndS k = true from c47)]))) hS.ext
        ·
          refine skip ?_
          show Code.wp _ _ _ _ _
          refine seq ?_
          refine region ?_
          refine sv (yAsg rfl) ?_
          refine nil ?_
          show Code.wp _ _ _ _ _
          refine wp_ret ?_
          exact retV (res1 rfl (eqI (by unfold kndE; rw [if_neg (by rw [show kndR k = false from c9]; decide), if_neg (by rw [c31]; decide), if_neg (fun h => c36 ((comp_sort k.keys).2 h)), if_neg (by rw [show kndS k = false from c47]; decide)]))) hS.ext
end Go.Proofs.YtghgnofilbnbaaaGreat

/- part Ck6 -/
namespace Go.Proofs.YtghgnofilbnbaaaGreat
open Go Bx
/-- barrage/crew.Check closure 1 -/
theorem c_Check1 {o : Opr} {cs : List Value} {w0 : World} (h : ROpr w0 cs o) : CV Tryz.prog 51 #[.agg cs.toArray] w0 (.string o.name) := by
  obtain ⟨dv, rfl, -⟩ := id h
  refine enter Tryz.func51 rfl Tryz.ntmps51 rfl ?_
  have hS := St.start w0
  refine seq ?_
  refine region ?_
  refine sbox hS rfl rfl ?_; clear hS; intro b1 w hS
  refine sv (yAsg rfl) ?_
  refine nil ?_
  show Code.wp _ _ _ _ _
  refine seq ?_
  refine region ?_
  refine sv (fa97_0 rfl) ?_
  refine sv (yLdB rfl Tryz.isAgg9 (hS.at _) rfl) ?_
  refine sv (yAsg rfl) ?_
  refine nil ?_
  show Code.wp _ _ _ _ _
  refine wp_ret ?_
  exact retV (res1 rfl rfl) hS.ext
/-- barrage/crew.Check closure 2 -/
theorem c_Check2 {s : ByteArray} {w0 : World} : CV Tryz.prog 54 #[.string s] w0 (.string s) := by
  refine enter Tryz.func54 rfl Tryz.ntmps54 rfl ?_
  have hS := St.start w0
  refine seq ?_
  refine region ?_
  refine sv (yAsg rfl) ?_
  refine nil ?_
  show Code.wp _ _ _ _ _
  refine seq ?_
  refine region ?_
  refine sv (yMove rfl) ?_
  refine sv (yAsg rfl) ?_
  refine nil ?_
  show Code.wp _ _ _ _ _
  refine wp_ret ?_
  exact retV (res1 rfl rfl) hS.ext
/-- barrage/crew.Check closure 3 -/
theorem c_Check3 {s : ByteArray} {w0 : World} : CV Tryz.prog 55 #[.string s] w0 (.int .i64 0) := by
  refine enter Tryz.func55 rfl Tryz.ntmps55 rfl ?_
  have hS := St.start w0
  refine seq ?_
  refine region ?_
  refine sv (yAsg rfl) ?_
  refine nil ?_
  show Code.wp _ _ _ _ _
  refine seq ?_
  refine region ?_
  refine sv (yAsg rfl) ?_
  refine nil ?_
  show Code.wp _ _ _ _ _
  refine wp_ret ?_
  exact retV (res1 rfl rfl) hS.ext
/-- barrage/crew.Check closure 4 -/
theorem c_Check4 {o : Knd} {cs : List Value} {w0 : World} (h : RKnd w0 cs o) : CV Tryz.prog 57 #[.agg cs.toArray] w0 (.string o.name) := by
  obtain ⟨dv, rfl, -⟩ := id h
  refine enter Tryz.func57 rfl Tryz.ntmps57 rfl ?_
  have hS := St.start w0
  refine seq ?_
  refine region ?_
  refine sbox hS rfl rfl ?_; clear hS; intro b1 w hS
  refine sv (yAsg rfl) ?_
  refine nil ?_
  show Code.wp _ _ _ _ _
  refine seq ?_
  refine region ?_
  refine sv (fa92_0 rfl) ?_
  refine sv (yLdB rfl Tryz.isAgg9 (hS.at _) rfl) ?_
  refine sv (yAsg rfl) ?_
  refine nil ?_
  show Code.wp _ _ _ _ _
  refine wp_ret ?_
  exact retV (res1 rfl rfl) hS.ext
/-- barrage/crew.Check closure 5 -/
theorem c_Check5 {k : Knd} {cs : List Value} {b len cap : Nat} {a : Option Addr} {ov nv : Value} {T : TypeId} {w0 : World} (h : RKnd w0 cs k) (hb : w0.heap[b]? = some (.cells [ov, .slice a len cap, nv].toArray T (0, 0))) (hl : len ≤ 9223372036854775807) : CV Tryz.prog 58 #[.agg cs.toArray, .pointer (some ⟨b, 0, none⟩)] w0 (.int .i64 (kndE len k)) := by
  obtain ⟨dv, rfl, -, -, -, -, ⟨ad, cd, rfl, -⟩, -⟩ := id h
  refine enter Tryz.func58 rfl Tryz.ntmps58 rfl ?_
  have hS := St.start w0
  refine seq ?_
  refine region ?_
  refine sbox hS rfl rfl ?_; clear hS; intro b2 w hS
  refine sv (yAsg rfl) ?_
  refine nil ?_
  show Code.wp _ _ _ _ _
  refine seq ?_
  refine region ?_
  refine sv (yLdBA rfl Tryz.isAgg92 Tryz.sizeOf92 (hS.at _) rfl rfl) ?_
  refine sv (fa26_1 rfl) ?_
  refine sv (yLdB rfl Tryz.isAgg23 (hS.ext.get hb) rfl) ?_
  refine sv (yLen rfl Tryz.underlying23) ?_
  refine scall Tryz.call59 (.cons rfl (.cons rfl .nil)) (c_kind (h.ext hS.ext) ⟨by omega, by omega⟩) ?_
  rintro _ w ⟨rfl, hE⟩; replace hS := hS.step hE; clear hE
  refine sv (yAsg rfl) ?_
  refine nil ?_
  show Code.wp _ _ _ _ _
  refine wp_ret ?_
  exact retV (res1 rfl rfl) hS.ext
set_option maxHeartbeats 1000000 in
/-- barrage/crew.Check -/
theorem c_CheckC {c : Crew} {cs : List Value} {w0 : World} (h : RCrew w0 cs c) : CV Tryz.prog 34 #[.agg cs.toArray] w0 (.tuple #[.int .i64 (checkC c).1, .int .i64 (checkC c).2.1, .int .i64 (checkC c).2.2]) := by
  obtain ⟨ov, kv, nv, rfl, hso, hsk, hsn, hrm⟩ := id h
  obtain ⟨a1, cap1, rfl, hcap1, hmx1, hel1⟩ := id hso
  obtain ⟨a2, cap2, rfl, hcap2, hmx2, hel2⟩ := id hsk
  obtain ⟨a3, cap3, rfl, hcap3, hmx3, hel3⟩ := id hsn
  refine enter Tryz.func34 rfl Tryz.ntmps34 rfl ?_
  have hS := St.start w0
  refine seq ?_
  refine region ?_
  refine sbox hS rfl rfl ?_; clear hS; intro b1 w hS
  refine sv (yAsg rfl) ?_
  refine sv (yAsg rfl) ?_
  refine sv (yAsg rfl) ?_
  refine nil ?_
  show Code.wp _ _ _ _ _
  refine seq ?_
  refine seq ?_
  refine region ?_
  refine sv (fa26_0 rfl) ?_
  refine sv (yLdB rfl Tryz.isAgg22 (hS.at _) rfl) ?_
  refine sv (yLen rfl Tryz.underlying22) ?_
  refine scall Tryz.call45 (.cons rfl (.cons rfl (.cons rfl .nil))) c_out ?_
  rintro _ w ⟨rfl, hE⟩; replace hS := hS.step hE; clear hE
  refine sv (yMove rfl) ?_
  refine sg rfl rfl rfl (fun g => (fa26_1 rfl)) (fun v10 g10 => ?_)
  refine sg rfl rfl rfl (fun g => (yLdB (g10.1 g) Tryz.isAgg23 (hS.at _) rfl)) (fun v11 g11 => ?_)
  refine sg rfl rfl rfl (fun g => (yLen (g11.1 g) Tryz.underlying23)) (fun v12 g12 => ?_)
  refine sg rfl rfl rfl (fun g => (yGtr (g12.1 g) rfl)) (fun v13 g13 => ?_)
  refine sv (yOr rfl rfl (fun hB => (g13.1 hB))) ?_
  refine sv (yMove rfl) ?_
  refine sg rfl rfl rfl (fun g => (fa26_2 rfl)) (fun v16 g16 => ?_)
  refine sg rfl rfl rfl (fun g => (yLdB (g16.1 g) Tryz.isAgg24 (hS.at _) rfl)) (fun v17 g17 => ?_)
  refine sg rfl rfl rfl (fun g => (yLen (g17.1 g) Tryz.underlying24)) (fun v18 g18 => ?_)
  refine sgc hS rfl rfl rfl Tryz.call45 (fun g => (.cons (g18.1 g) (.cons rfl (.cons rfl .nil)))) (fun g => c_out) ?_; clear hS; intro v19 w hS g19
  refine sv (yOr rfl rfl (fun hB => (g19.1 hB))) ?_
  refine nil ?_
  show Code.wp _ _ _ _ _
  refine cond rfl (fun c20 => ?_) (fun c20 => ?_)
  ·
    refine seq ?_
    refine region ?_
    refine sv (yAsg rfl) ?_
    refine sv (yAsg rfl) ?_
    refine sv (yAsg rfl) ?_
    refine nil ?_
    show Code.wp _ _ _ _ _
    have hfin : checkC c = (1, 0, 3) := by unfold checkC; rw [if_pos (show sizeBad c = true from c20)]
    refine wp_ret (thenR ?_)
    exact retV (res3 rfl (fstI hfin) (thd1I hfin) (thd2I hfin)) hS.ext
  ·
    refine skip ?_
    show Code.wp _ _ _ _ _
    refine seq ?_
    refine seq ?_
    refine region ?_
    refine sv (fa26_0 rfl) ?_
    refine sv (yLdB rfl Tryz.isAgg22 (hS.at _) rfl) ?_
    refine scall Tryz.call50 (.cons rfl (.cons rfl (.cons rfl .nil))) (c_namedOpr (k1 := []) (k2 := []) (nm := (·.name)) (rest := oprE) (hso.ext ROpr.stays hS.ext) Tryz.call51 Tryz.call52 (fun x cs w _ _ h => c_Check1 h) (fun x cs w _ _ h => c_operator h) (sl_all hso (fun _ _ h => by obtain ⟨_, _, h, _⟩ := h; exact h))) ?_
    rintro _ w ⟨rfl, hE⟩; replace hS := hS.step hE; clear hE
    refine sv (yMove rfl) ?_
    refine sv (yExt rfl rfl) ?_
    refine sv (yExt rfl rfl) ?_
    refine sv (yAsg rfl) ?_
    refine sv (yAsg rfl) ?_
    refine nil ?_
    show Code.wp _ _ _ _ _
    refine seq ?_
    refine region ?_
    refine sv (yMove rfl) ?_
    refine sv (yNeq rfl rfl) ?_
    refine nil ?_
    show Code.wp _ _ _ _ _
    refine cond rfl (fun c28 => ?_) (fun c28 => ?_)
    ·
      simp only [Bool.and_eq_true, Bool.or_eq_true, Bool.and_eq_false_iff, Bool.or_eq_false_iff, decide_eq_true_eq, decide_eq_false_iff_not, Bool.not_eq_true, Bool.not_eq_false, Bool.not_not, Bool.not_eq_eq_eq_not, Bool.not_true, Bool.not_false, Bool.false_eq_true, Bool.true_eq_false, ne_eq, Decidable.not_not, not_false_eq_true, not_true_eq_false] at c28
      refine seq ?_
      refine region ?_
      refine sv (yMove rfl) ?_
      refine sv (yMove rfl) ?_
      refine sv (yAsg rfl) ?_
      refine sv (yAsg rfl) ?_
      refine sv (yAsg rfl) ?_
      refine nil ?_
      show Code.wp _ _ _ _ _
      have hfin : checkC c = (2, namedR (·.name) oprE c.ops [] 0) := by unfold checkC; rw [if_neg (by rw [show sizeBad c = false from c20]; decide), if_pos c28]
      refine wp_ret (thenR ?_)
      exact retV (res3 rfl (fstI hfin) (thd1I hfin) (thd2I hfin)) hS.ext
    ·
      simp only [Bool.and_eq_true, Bool.or_eq_true, Bool.and_eq_false_iff, Bool.or_eq_false_iff, decide_eq_true_eq, decide_eq_false_iff_not, Bool.not_eq_true, Bool.not_eq_false, Bool.not_not, Bool.not_eq_eq_eq_not, Bool.not_true, Bool.not_false, Bool.false_eq_true, Bool.true_eq_false, ne_eq, Decidable.not_not, not_false_eq_true, not_true_eq_false] at c28
      refine skip ?_
      show Code.wp _ _ _ _ _
      refine seq ?_
      refine seq ?_
      refine region ?_
      refine sv (fa26_1 rfl) ?_
      refine sv (yLdB rfl Tryz.isAgg23 (hS.at _) rfl) ?_
      refine scall Tryz.call53 (.cons rfl (.cons rfl (.cons rfl .nil))) (c_namedKey (k1 := []) (k2 := []) (nm := id) (rest := fun _ => 0) (hsk.ext RNam.stays hS.ext) Tryz.call54 Tryz.call55 (fun x cs w _ _ h => c_Check2) (fun x cs w _ _ h => c_Check3) (sl_all hsk (fun _ _ h => h.2))) ?_
      rintro _ w ⟨rfl, hE⟩; replace hS := hS.step hE; clear hE
      refine sv (yMove rfl) ?_
      refine sv (yExt rfl rfl) ?_
      refine sv (yExt rfl rfl) ?_
      refine sv (yAsg rfl) ?_
      refine sv (yAsg rfl) ?_
      refine nil ?_
      show Code.wp _ _ _ _ _
      refine seq ?_
      refine region ?_
      refine sv (yMove rfl) ?_
      refine sv (yNeq rfl rfl) ?_
      refine nil ?_
      show Code.wp _ _ _ _ _
      refine cond rfl (fun c38 => ?_) (fun c38 => ?_)
      ·
        simp only [Bool.and_eq_true, Bool.or_eq_true, Bool.and_eq_false_iff, Bool.or_eq_false_iff, decide_eq_true_eq, decide_eq_false_iff_not, Bool.not_eq_true, Bool.not_eq_false, Bool.not_not, Bool.not_eq_eq_eq_not, Bool.not_true, Bool.not_false, Bool.false_eq_true, Bool.true_eq_false, ne_eq, Decidable.not_not, not_false_eq_true, not_true_eq_false] at c38
        refine seq ?_
        refine region ?_
        refine sv (yMove rfl) ?_
        refine sv (yMove rfl) ?_
        refine sv (yAsg rfl) ?_
        refine sv (yAsg rfl) ?_
        refine sv (yAsg rfl) ?_
        refine nil ?_
        show Code.wp _ _ _ _ _
        have hfin : checkC c = (3, namedR id (fun _ => 0) c.keys [] 0) := by unfold checkC; rw [if_neg (by rw [show sizeBad c = false from c20]; decide), if_neg (fun h => h c28), if_pos c38]
        refine wp_ret (thenR ?_)
        exact retV (res3 rfl (fstI hfin) (thd1I hfin) (thd2I hfin)) hS.ext
      ·
        simp only [Bool.and_eq_true, Bool.or_eq_true, Bool.and_eq_false_iff, Bool.or_eq_false_iff, decide_eq_true_eq, decide_eq_false_iff_not, Bool.not_eq_true, Bool.not_eq_false, Bool.not_not, Bool.not_eq_eq_eq_not, Bool.not_true, Bool.not_false, Bool.false_eq_true, Bool.true_eq_false, ne_eq, Decidable.not_not, not_false_eq_true, not_true_eq_false] at c38
        refine skip ?_
        show Code.wp _ _ _ _ _
        refine seq ?_
        refine region ?_
        refine sv (fa26_2 rfl) ?_
        refine sv (yLdB rfl Tryz.isAgg24 (hS.at _) rfl) ?_
        refine sv (yFn (.cons rfl .nil)) ?_
        refine scall Tryz.call56 (.cons rfl (.cons rfl (.cons rfl .nil))) (c_namedKnd (k1 := []) (k2 := [.pointer (some ⟨b1, 0, none⟩)]) (nm := (·.name)) (rest := kndE c.keys.length) (hsn.ext RKnd.stays hS.ext) Tryz.call57 Tryz.call58 (fun x cs w _ _ h => c_Check4 h) (fun x cs w _ e h => c_Check5 h (e.get (hS.at b1)) (by omega)) (sl_all hsn (fun _ _ h => by obtain ⟨_, _, h, _⟩ := h; exact h))) ?_
        rintro _ w ⟨rfl, hE⟩; replace hS := hS.step hE; clear hE
        refine sv (yMove rfl) ?_
        refine sv (yExt rfl rfl) ?_
        refine sv (yExt rfl rfl) ?_
        refine sv (yAsg rfl) ?_
        refine sv (yAsg rfl) ?_
        refine nil ?_
        show Code.wp _ _ _ _ _
        refine seq ?_
        refine seq ?_
        refine region ?_
        refine sv (yMove rfl) ?_
        refine sv (yNeq rfl rfl) ?_
        refine nil ?_
        show Code.wp _ _ _ _ _
        refine cond rfl (fun c49 => ?_) (fun c49 => ?_)
        ·
          simp only [Bool.and_eq_true, Bool.or_eq_true, Bool.and_eq_false_iff, Bool.or_eq_false_iff, decide_eq_true_eq, decide_eq_false_iff_not, Bool.not_eq_true, Bool.not_eq_false, Bool.not_not, Bool.not_eq_eq_eq_not, Bool.not_true, Bool.not_false, Bool.false_eq_true, Bool.true_eq_false, ne_eq, Decidable.not_not, not_false_eq_true, not_true_eq_false] at c49
          refine seq ?_
          refine region ?_
          refine sv (yMove rfl) ?_
          refine sv (yMove rfl) ?_
          refine sv (yAsg rfl) ?_
          refine sv (yAsg rfl) ?_
          refine sv (yAsg rfl) ?_
          refine nil ?_
          show Code.wp _ _ _ _ _
          have hfin : checkC c = (4, namedR (·.name) (kndE c.keys.length) c.kinds [] 0) := by unfold checkC; rw [if_neg (by rw [show sizeBad c = false from c20]; decide), if_neg (fun h => h c28), if_neg (fun h => h c38), if_pos c49]
          refine wp_ret (thenR ?_)
          exact retV (res3 rfl (fstI hfin) (thd1I hfin) (thd2I hfin)) hS.ext
        ·
          simp only [Bool.and_eq_true, Bool.or_eq_true, Bool.and_eq_false_iff, Bool.or_eq_false_iff, decide_eq_true_eq, decide_eq_false_iff_not, Bool.not_eq_true, Bool.not_eq_false, Bool.not_not, Bool.not_eq_eq_eq_not, Bool.not_true, Bool.not_false, Bool.false_eq_true, Bool.true_eq_false, ne_eq, Decidable.not_not, not_false_eq_true, not_true_eq_false] at c49
          refine skip ?_
          show Code.wp _ _ _ _ _
          refine seq ?_
          refine region ?_
          refine sv (yAsg rfl) ?_
          refine sv (yAsg rfl) ?_
          refine sv (yAsg rfl) ?_
          refine nil ?_
          show Code.wp _ _ _ _ _
          have hfin : checkC c = (0, 0, 0) := by unfold checkC; rw [if_neg (by rw [show sizeBad c = false from c20]; decide), if_neg (fun h => h c28), if_neg (fun h => h c38), if_neg (fun h => h c49)]
          refine wp_ret ?_
          exact retV (res3 rfl (fstI hfin) (thd1I hfin) (thd2I hfin)) hS.ext
end Go.Proofs.YtghgnofilbnbaaaGreat

/- part C2 -/
namespace Bx
open Go Go.RowKit
abbrev nOpr : Opr := ⟨⟨#[]⟩, 0, []⟩
abbrev nKnd : Knd := ⟨⟨#[]⟩, 0, 0, 0, [], false⟩
def oprAt (c : Crew) (i : Int) : Opr := c.ops.getD i.toNat nOpr
def kndAt (c : Crew) (i : Int) : Knd := c.kinds.getD i.toNat nKnd
def spnAt (m : Int) (s : Spn) : Bool := decide (s.fr ≤ m) && decide (m < s.un)
def onB (c : Crew) (i m : Int) : Bool := (oprAt c i).duty.any (spnAt m)
def onE (c : Crew) (i m : Int) : Int := if (checkC c).2.2 ≠ 0 then (checkC c).2.2 else if outB i 0 ((c.ops.length : Int) - 1) = true then 4 else if neverB m = true then 7 else 0
def onF (c : Crew) (i m : Int) : Bool × Int := if onE c i m ≠ 0 then (false, onE c i m) else (onB c i m, 0)
def fitB (c : Crew) (m i g : Int) : Bool := decide (g ≤ (oprAt c i).grade) && onB c i m
def inP (c : Crew) (x : Knd) (m : Int) (i k : Nat) : List (Int × Int) := ((List.range k).filter fun (q : Nat) => decide ((q : Int) ≠ i) && fitB c m q x.second).map fun (q : Nat) => ((i : Int), (q : Int))
def rowP (c : Crew) (x : Knd) (m : Int) (i : Nat) : List (Int × Int) := if fitB c m i x.grade = true then (if x.second = 0 then [((i : Int), -1)] else inP c x m i c.ops.length) else []
def prP (c : Crew) (x : Knd) (m : Int) (i : Nat) : List (Int × Int) := (List.range i).flatMap (rowP c x m)
def pairsL (c : Crew) (x : Knd) (m : Int) : List (Int × Int) := prP c x m c.ops.length
theorem prP_succ (c : Crew) (x : Knd) (m : Int) (i : Nat) : prP c x m (i + 1) = prP c x m i ++ rowP c x m i := by simp [prP, List.range_succ]
theorem inP_in {c : Crew} {x : Knd} {m : Int} {i k : Nat} (h : (decide ((k : Int) ≠ i) && fitB c m k x.second) = true) : inP c x m i (k + 1) = inP c x m i k ++ [((i : Int), (k : Int))] := by
  unfold inP
  rw [List.range_succ, List.filter_append, List.map_append, List.filter_cons_of_pos (p := fun (q : Nat) => decide ((q : Int) ≠ i) && fitB c m q x.second) h]
  rfl
theorem inP_out {c : Crew} {x : Knd} {m : Int} {i k : Nat} (h : (decide ((k : Int) ≠ i) && fitB c m k x.second) = false) : inP c x m i (k + 1) = inP c x m i k := by
  unfold inP
  rw [List.range_succ, List.filter_append, List.map_append, List.filter_cons_of_neg (p := fun (q : Nat) => decide ((q : Int) ≠ i) && fitB c m q x.second) (by rw [h]; decide)]
  simp
theorem prP_pre {c : Crew} {x : Knd} {m : Int} {i : Nat} (hi : i < c.ops.length) : prP c x m (i + 1) <+: pairsL c x m := by
  have : ∀ n, i + 1 ≤ n → prP c x m (i + 1) <+: prP c x m n := by
    intro n hn
    induction n with
    | zero => omega
    | succ n ih =>
      by_cases h : i = n
      · subst h; exact List.prefix_rfl
      · rw [prP_succ c x m n]; exact (ih (by omega)).trans (List.prefix_append _ _)
  exact this _ hi
theorem inP_pre {c : Crew} {x : Knd} {m : Int} {i k : Nat} : ∀ n, k ≤ n → inP c x m i k <+: inP c x m i n := by
  intro n hn
  induction n with
  | zero => obtain rfl : k = 0 := by omega
            exact List.prefix_rfl
  | succ n ih =>
    by_cases h : k = n + 1
    · subst h; exact List.prefix_rfl
    · refine (ih (by omega)).trans ?_
      by_cases hq : (decide ((n : Int) ≠ i) && fitB c m n x.second) = true
      · rw [inP_in hq]; exact List.prefix_append _ _
      · rw [inP_out (by simpa using hq)]; exact List.prefix_rfl
theorem pre_one {c : Crew} {x : Knd} {m : Int} {i : Nat} (hi : i < c.ops.length) (hf : fitB c m i x.grade = true) (h0 : x.second = 0) : prP c x m i ++ [((i : Int), (-1 : Int))] <+: pairsL c x m := by
  have := prP_pre (c := c) (x := x) (m := m) hi
  rwa [prP_succ, rowP, if_pos hf, if_pos h0] at this
theorem pre_two {c : Crew} {x : Knd} {m : Int} {i k : Nat} (hi : i < c.ops.length) (hk : k < c.ops.length) (hf : fitB c m i x.grade = true) (h0 : x.second ≠ 0) (hq : (decide ((k : Int) ≠ i) && fitB c m k x.second) = true) : prP c x m i ++ inP c x m i k ++ [((i : Int), (k : Int))] <+: pairsL c x m := by
  have h1 := prP_pre (c := c) (x := x) (m := m) hi
  rw [prP_succ, rowP, if_pos hf, if_neg h0] at h1
  have h2 := inP_pre (c := c) (x := x) (m := m) (i := i) (k := k + 1) c.ops.length hk
  rw [inP_in hq] at h2
  refine List.IsPrefix.trans ?_ h1
  rw [List.append_assoc]
  exact (List.prefix_append_right_inj _).2 h2
def pC (p : Int × Int) : List Value := [.int .i64 p.1, .int .i64 p.2]
theorem pairs_bd {c : Crew} {x : Knd} {m : Int} (h : c.ops.length ≤ 9223372036854775807) : ∀ p ∈ pairsL c x m, I64 p.1 ∧ I64 p.2 := by
  intro p hp
  obtain ⟨i, hi, hp⟩ := List.mem_flatMap.1 hp
  rw [List.mem_range] at hi
  unfold rowP at hp
  split at hp
  · split at hp
    · obtain rfl := List.mem_singleton.1 hp
      exact ⟨⟨by show (-9223372036854775808 : Int) ≤ (i : Int); omega, by show (i : Int) ≤ 9223372036854775807; omega⟩, (show I64 (-1) by decide)⟩
    · obtain ⟨k, hk, rfl⟩ := List.mem_map.1 hp
      have := List.mem_range.1 (List.mem_filter.1 hk).1
      exact ⟨⟨by omega, by omega⟩, ⟨by omega, by omega⟩⟩
  · cases hp
def ableB (c : Crew) (x : Knd) (m : Int) : Bool := !(pairsL c x m).isEmpty
def ableE (c : Crew) (k m : Int) : Int := if (checkC c).2.2 ≠ 0 then (checkC c).2.2 else if outB k 0 ((c.kinds.length : Int) - 1) = true then 4 else if neverB m = true then 7 else 0
def ableF (c : Crew) (k m : Int) : Int × Int × Int := if ableE c k m ≠ 0 then (0, 0, ableE c k m) else match pairsL c (kndAt c k) m with
  | [] => (0, 0, 9)
  | p :: _ => (p.1, p.2, 0)
theorem ableF_e {c : Crew} {k m e : Int} (h : ableE c k m = e) (h0 : e ≠ 0) : ableF c k m = (0, 0, e) := by unfold ableF; rw [h, if_pos h0]
theorem ableF_nil {c : Crew} {k m : Int} (h : ableE c k m = 0) (h2 : pairsL c (kndAt c k) m = []) : ableF c k m = (0, 0, 9) := by unfold ableF; rw [if_neg (fun q => q h), h2]
theorem ableF_cons {c : Crew} {k m : Int} {p : Int × Int} {l : List (Int × Int)} (h : ableE c k m = 0) (h2 : pairsL c (kndAt c k) m = p :: l) : ableF c k m = (p.1, p.2, 0) := by unfold ableF; rw [if_neg (fun q => q h), h2]
structure CrewOk (c : Crew) : Prop where
  nops : 1 ≤ c.ops.length ∧ c.ops.length ≤ 8
  nkeys : c.keys.length ≤ 8
  nkinds : 1 ≤ c.kinds.length ∧ c.kinds.length ≤ 8
  ops : ∀ o ∈ c.ops, oprE o = 0
  kinds : ∀ k ∈ c.kinds, kndE c.keys.length k = 0
theorem namedR_zero {α : Type} {nm : α → ByteArray} {rest : α → Int} : ∀ {l : List α} {seen : List ByteArray} {i : Int}, (namedR nm rest l seen i).2 = 0 → ∀ x ∈ l, rest x = 0
  | [], _, _, _, x, hx => by cases hx
  | y :: l, seen, i, h, x, hx => by
    unfold namedR at h
    split at h
    · cases h
    split at h
    · cases h
    split at h
    · rename_i h3; exact absurd h h3
    · rename_i h3
      rcases List.mem_cons.1 hx with rfl | hx
      · exact Classical.not_not.1 h3
      · exact namedR_zero h x hx
theorem crewOk_of {c : Crew} (h : (checkC c).2.2 = 0) : CrewOk c := by
  unfold checkC at h
  split at h
  · cases h
  split at h
  · rename_i h2; exact absurd h h2
  split at h
  · rename_i h2; exact absurd h h2
  split at h
  · rename_i h2; exact absurd h h2
  · rename_i h1 h2 h3 h4
    simp only [sizeBad, Bool.not_eq_true, Bool.or_eq_false_iff, outB_false, decide_eq_false_iff_not] at h1
    exact ⟨⟨by omega, by omega⟩, by omega, ⟨by omega, by omega⟩, namedR_zero (Classical.not_not.1 h2), namedR_zero (Classical.not_not.1 h4)⟩
end Bx

/- part Ck7 -/
namespace Go.Proofs.YtghgnofilbnbaaaGreat
open Go Bx
/-- barrage/crew.on closure 1 -/
theorem c_on1 {s : Spn} {m : Int} {b : Nat} {T : TypeId} {w0 : World} (hb : w0.heap[b]? = some (.cells [.int .i64 m].toArray T (0, 0))) : CV Tryz.prog 85 #[.agg (spnC s).toArray, .pointer (some ⟨b, 0, none⟩)] w0 (.bool (spnAt m s)) := by
  refine enter Tryz.func85 rfl Tryz.ntmps85 rfl ?_
  have hS := St.start w0
  refine seq ?_
  refine region ?_
  refine sbox hS rfl rfl ?_; clear hS; intro b2 w hS
  refine sv (yAsg rfl) ?_
  refine nil ?_
  show Code.wp _ _ _ _ _
  refine seq ?_
  refine region ?_
  refine sv (fa94_0 rfl) ?_
  refine sv (yLdB rfl Tryz.isAgg3 (hS.at _) rfl) ?_
  refine sv (yLdB rfl Tryz.isAgg3 (hS.ext.get hb) rfl) ?_
  refine sv (yLeq rfl rfl) ?_
  refine sv (yMove rfl) ?_
  refine sg rfl rfl rfl (fun g => (yLdB rfl Tryz.isAgg3 (hS.ext.get hb) rfl)) (fun v9 g9 => ?_)
  refine sg rfl rfl rfl (fun g => (fa94_1 rfl)) (fun v10 g10 => ?_)
  refine sg rfl rfl rfl (fun g => (yLdB (g10.1 g) Tryz.isAgg3 (hS.at _) rfl)) (fun v11 g11 => ?_)
  refine sg rfl rfl rfl (fun g => (yLss (g9.1 g) (g11.1 g))) (fun v12 g12 => ?_)
  refine sv (yAnd rfl (fun hB => (g12.1 hB)) rfl) ?_
  refine sv (yAsg rfl) ?_
  refine nil ?_
  show Code.wp _ _ _ _ _
  refine wp_ret ?_
  exact retV (res1 rfl rfl) hS.ext
/-- barrage/crew.on -/
theorem c_on {c : Crew} {cs : List Value} {who m : Int} {w0 : World} (h : RCrew w0 cs c) (hw : 0 ≤ who ∧ who < c.ops.length) : CV Tryz.prog 64 #[.agg cs.toArray, .int .i64 who, .int .i64 m] w0 (.bool (onB c who m)) := by
  obtain ⟨ov, kv, nv, rfl, hso, hsk, hsn, hrm⟩ := id h
  obtain ⟨a, cap, rfl, hcap, hmx, hel⟩ := id hso
  obtain ⟨i, rfl⟩ := Int.eq_ofNat_of_zero_le hw.1
  refine enter Tryz.func64 rfl Tryz.ntmps64 rfl ?_
  have hS := St.start w0
  refine seq ?_
  refine region ?_
  refine sbox hS rfl rfl ?_; clear hS; intro b3 w hS
  refine sbox hS rfl rfl ?_; clear hS; intro b5 w hS
  refine sv (yAsg rfl) ?_
  refine nil ?_
  show Code.wp _ _ _ _ _
  refine seq ?_
  refine region ?_
  obtain ⟨u, hxq, hdq⟩ := drop_of (l := c.ops) (k := i) (by omega)
  obtain ⟨bq, oq, csq, haq, hlenq, hcsq, hRq⟩ := hel (i) (by omega)
  obtain rfl : u = c.ops[i] := (List.getElem?_eq_some_iff.1 hxq).2.symm
  generalize c.ops[i] = u at hxq hdq hRq
  have hR := hRq
  obtain ⟨dv, rfl, -, -, hsd, -⟩ := id hR
  obtain ⟨ad, cd, rfl, -⟩ := id hsd
  refine sv (fa26_0 rfl) ?_
  refine sv (yLdB rfl Tryz.isAgg22 (hS.at _) rfl) ?_
  refine sv (yMove rfl) ?_
  refine sv (yIxa rfl haq rfl Tryz.runUnderlying22 Tryz.sizeOf97 (by omega) (by omega)) ?_
  refine sv (fa97_2 rfl) ?_
  refine sv (yLd rfl Tryz.isAgg95 ((hcsq.ext hS.ext).at (j := 2) rfl)) ?_
  refine sv (yFn (.cons rfl .nil)) ?_
  refine scall Tryz.call76 (.cons rfl (.cons rfl .nil)) (c_ContainsSpn (p := spnAt m) (cl := [.pointer (some ⟨b5, 0, none⟩)]) (hsd.ext RSpn.stays hS.ext) Tryz.call85 (fun x w _ e => c_on1 (e.get (hS.at b5)))) ?_
  rintro _ w ⟨rfl, hE⟩; replace hS := hS.step hE; clear hE
  refine sv (yAsg rfl) ?_
  refine nil ?_
  show Code.wp _ _ _ _ _
  refine wp_ret ?_
  exact retV (res1 rfl (eqB (by unfold onB oprAt; rw [Int.toNat_natCast, getD_hit hxq]))) hS.ext
end Go.Proofs.YtghgnofilbnbaaaGreat

/- part Ck8 -/
namespace Go.Proofs.YtghgnofilbnbaaaGreat
open Go Bx
/-- barrage/crew.pairs closure 1 -/
theorem c_fit {c : Crew} {who m gr : Int} {a : Option Addr} {cap p3 p5 : Nat} {kv nv : Value} {T T2 : TypeId} {w0 : World} (h3 : w0.heap[p3]? = some (.cells [.slice a c.ops.length cap, kv, nv].toArray T (0, 0))) (h5 : w0.heap[p5]? = some (.cells [.int .i64 m].toArray T2 (0, 0))) (h : RCrew w0 [.slice a c.ops.length cap, kv, nv] c) (hw : 0 ≤ who ∧ who < c.ops.length) : CV Tryz.prog 89 #[.int .i64 who, .int .i64 gr, .pointer (some ⟨p3, 0, none⟩), .pointer (some ⟨p5, 0, none⟩)] w0 (.bool (fitB c m who gr)) := by
  obtain ⟨ov, kv2, nv2, he, hso, -⟩ := id h
  cases he
  obtain ⟨a', cap', hv, hcap, hmx, hel⟩ := id hso
  obtain ⟨rfl, rfl⟩ := slice_inj hv.symm
  obtain ⟨i, rfl⟩ := Int.eq_ofNat_of_zero_le hw.1
  refine enter Tryz.func89 rfl Tryz.ntmps89 rfl ?_
  have hS := St.start w0
  refine seq ?_
  refine region ?_
  refine sv (yAsg rfl) ?_
  refine nil ?_
  show Code.wp _ _ _ _ _
  refine seq ?_
  refine region ?_
  obtain ⟨u, hxq, hdq⟩ := drop_of (l := c.ops) (k := i) (by omega)
  obtain ⟨bq, oq, csq, haq, hlenq, hcsq, hRq⟩ := hel (i) (by omega)
  obtain rfl : u = c.ops[i] := (List.getElem?_eq_some_iff.1 hxq).2.symm
  generalize c.ops[i] = u at hxq hdq hRq
  have hR := hRq
  obtain ⟨dv, rfl, -, -, hsd, -⟩ := id hR
  obtain ⟨ad, cd, rfl, -⟩ := id hsd
  refine sv (fa26_0 rfl) ?_
  refine sv (yLdB rfl Tryz.isAgg22 (hS.ext.get h3) rfl) ?_
  refine sv (yMove rfl) ?_
  refine sv (yIxa rfl haq rfl Tryz.runUnderlying22 Tryz.sizeOf97 (by omega) (by omega)) ?_
  refine sv (fa97_1 rfl) ?_
  refine sv (yLd rfl Tryz.isAgg3 ((hcsq.ext hS.ext).at (j := 1) rfl)) ?_
  refine sv (yMove rfl) ?_
  refine sv (yGeq rfl rfl) ?_
  refine sv (yMove rfl) ?_
  refine sg rfl rfl rfl (fun g => (yLdBA rfl Tryz.isAgg26 Tryz.sizeOf26 (hS.ext.get h3) rfl rfl)) (fun v16 g16 => ?_)
  refine sg rfl rfl rfl (fun g => (yMove rfl)) (fun v17 g17 => ?_)
  refine sg rfl rfl rfl (fun g => (yLdB rfl Tryz.isAgg3 (hS.ext.get h5) rfl)) (fun v18 g18 => ?_)
  refine sgc hS rfl rfl rfl Tryz.call64 (fun g => (.cons (g16.1 g) (.cons (g17.1 g) (.cons (g18.1 g) .nil)))) (fun g => (c_on (h.ext hS.ext) hw)) ?_; clear hS; intro v19 w hS g19
  refine sv (yAnd rfl (fun hB => (g19.1 hB)) rfl) ?_
  refine sv (yAsg rfl) ?_
  refine nil ?_
  show Code.wp _ _ _ _ _
  refine wp_ret ?_
  exact retV (res1 rfl (eqB (by unfold fitB oprAt; rw [Int.toNat_natCast, getD_hit hxq]))) hS.ext
/-- barrage/crew.pairs -/
theorem c_pairs {c : Crew} {x : Knd} {a : Option Addr} {cap : Nat} {kv nv xv : Value} {m : Int} {w0 : World} : CE Tryz.prog 74 #[.agg [.slice a c.ops.length cap, kv, nv].toArray, .agg [.string x.name, .int .i64 x.grade, .int .i64 x.second, .int .i64 x.within, xv, .bool x.split].toArray, .int .i64 m] w0 (fun v w' => ∃ p3 p7 p4 p5, v = .func (.func 90) #[] [.pointer (some ⟨p3, 0, none⟩), .pointer (some ⟨p7, 0, none⟩), .pointer (some ⟨p4, 0, none⟩)].toArray ∧ St w0 w' [blk p7 [.func (.func 89) #[] ([.pointer (some ⟨p3, 0, none⟩), .pointer (some ⟨p5, 0, none⟩)] : List Value).toArray] 99, blk p5 [.int .i64 m] 3, blk p4 [.string x.name, .int .i64 x.grade, .int .i64 x.second, .int .i64 x.within, xv, .bool x.split] 92, blk p3 [.slice a c.ops.length cap, kv, nv] 26]) := by
  refine enter Tryz.func74 rfl Tryz.ntmps74 rfl ?_
  have hS := St.start w0
  refine seq ?_
  refine region ?_
  refine sbox hS rfl rfl ?_; clear hS; intro b3 w hS
  refine sbox hS rfl rfl ?_; clear hS; intro b4 w hS
  refine sbox hS rfl rfl ?_; clear hS; intro b5 w hS
  refine sv (yAsg rfl) ?_
  refine nil ?_
  show Code.wp _ _ _ _ _
  refine seq ?_
  refine region ?_
  
  refine sv (yFn (.cons rfl (.cons rfl .nil))) ?_
  refine salloc hS Tryz.zeroValue99 rfl ?_; clear hS; intro b7 w hS
  refine sst hS rfl rfl Tryz.sizeOf99 rfl rfl rfl rfl ?_; clear hS; intro w hS
  refine nil ?_
  show Code.wp _ _ _ _ _
  refine seq ?_
  refine region ?_
  refine sv (yFn (.cons rfl (.cons rfl (.cons rfl .nil)))) ?_
  refine sv (yAsg rfl) ?_
  refine nil ?_
  show Code.wp _ _ _ _ _
  refine wp_ret ?_
  refine retQ (res1 rfl rfl) ?_
  exact ⟨b3, b7, b4, b5, rfl, hS⟩
set_option maxHeartbeats 2000000 in
/-- barrage/crew.pairs closure 2 -/
theorem it_pairs {c : Crew} {x : Knd} {a : Option Addr} {cap p3 p7 p4 p5 : Nat} {kv nv xv : Value} {m : Int} {w0 : World} (h : RCrew w0 [.slice a c.ops.length cap, kv, nv] c) : ItC Tryz.prog 90 [.pointer (some ⟨p3, 0, none⟩), .pointer (some ⟨p7, 0, none⟩), .pointer (some ⟨p4, 0, none⟩)] w0 [blk p7 [.func (.func 89) #[] ([.pointer (some ⟨p3, 0, none⟩), .pointer (some ⟨p5, 0, none⟩)] : List Value).toArray] 99, blk p5 [.int .i64 m] 3, blk p4 [.string x.name, .int .i64 x.grade, .int .i64 x.second, .int .i64 x.within, xv, .bool x.split] 92, blk p3 [.slice a c.ops.length cap, kv, nv] 26] pC (pairsL c x m) := by
  obtain ⟨ov, kv2, nv2, he, hso, -⟩ := id h
  cases he
  obtain ⟨a', cap', hv, hcap, hmx, hel⟩ := id hso
  obtain ⟨rfl, rfl⟩ := slice_inj hv.symm
  intro yl Cb w L hY h0 hS
  replace hS : StX [] w0 w (blk p7 [.func (.func 89) #[] ([.pointer (some ⟨p3, 0, none⟩), .pointer (some ⟨p5, 0, none⟩)] : List Value).toArray] 99 :: blk p5 [.int .i64 m] 3 :: blk p4 [.string x.name, .int .i64 x.grade, .int .i64 x.second, .int .i64 x.within, xv, .bool x.split] 92 :: blk p3 [.slice a c.ops.length cap, kv, nv] 26 :: L) := hS
  refine enterX Tryz.func90 rfl Tryz.ntmps90 rfl ?_
  skip
  refine seqX ?_
  refine regionX rfl ?_
  refine sv (fa26_0 rfl) ?_
  refine sv (yLdB rfl Tryz.isAgg22 (hS.at _) rfl) ?_
  refine sv (yLen rfl Tryz.underlying22) ?_
  refine sv (yMove rfl) ?_
  refine nil ?_
  show Code.wpIn _ _ _ _ _ _ _
  refine blockX ?_
  refine loopX (fun f w zz => ∃ (i : Nat) (L : List Bx.Item), f 0 = .func (.yield yl) #[] #[] ∧ f 1 = .pointer (some ⟨p3, 0, none⟩) ∧ f 2 = .pointer (some ⟨p7, 0, none⟩) ∧ f 3 = .pointer (some ⟨p4, 0, none⟩) ∧ f 9 = .int .i64 (c.ops.length : Int) ∧ f 10 = .int .i64 (i : Int) ∧ StX [] w0 w (blk p7 [.func (.func 89) #[] ([.pointer (some ⟨p3, 0, none⟩), .pointer (some ⟨p5, 0, none⟩)] : List Value).toArray] 99 :: blk p5 [.int .i64 m] 3 :: blk p4 [.string x.name, .int .i64 x.grade, .int .i64 x.second, .int .i64 x.within, xv, .bool x.split] 92 :: blk p3 [.slice a c.ops.length cap, kv, nv] 26 :: L) ∧ (i ≤ c.ops.length) ∧ (Cb true (prP c x m i) L) ∧ zz = c.ops.length - i) _ ⟨_, rfl, 0, L, rfl, rfl, rfl, rfl, rfl, rfl, hS, (Nat.zero_le _), (h0), rfl⟩ ?_
  clear hS
  rintro f w _ ⟨i, L, h0, h1, h2, h3, h9, h10, hS, hi, hcb, rfl⟩
  refine seqX ?_
  refine regionX rfl ?_
  refine sv (yLss h10 h9) ?_
  refine nil ?_
  show Code.wpIn _ _ _ _ _ _ _
  refine seqX ?_
  refine condX rfl (fun c11 => ?_) (fun c11 => ?_)
  ·
    simp only [Bool.and_eq_true, Bool.or_eq_true, Bool.and_eq_false_iff, Bool.or_eq_false_iff, decide_eq_true_eq, decide_eq_false_iff_not, Bool.not_eq_true, Bool.not_eq_false, Bool.not_not, Bool.not_eq_eq_eq_not, Bool.not_true, Bool.not_false, Bool.false_eq_true, Bool.true_eq_false, ne_eq, Decidable.not_not, not_false_eq_true, not_true_eq_false] at c11
    refine skipX ?_
    show Code.wpIn _ _ _ _ _ _ _
    refine seqX ?_
    refine blockX ?_
    refine seqX ?_
    refine regionX rfl ?_
    refine sv (yMove h10) ?_
    refine sv (yAsg rfl) ?_
    refine nil ?_
    show Code.wpIn _ _ _ _ _ _ _
    refine seqX ?_
    refine seqX ?_
    refine regionX rfl ?_
    refine sv (yLdB h2 Tryz.isAgg99 (hS.at _) rfl) ?_
    refine sv (yMove rfl) ?_
    refine sv (fa92_1 h3) ?_
    refine sv (yLdB rfl Tryz.isAgg3 (hS.at _) rfl) ?_
    refine scallf rfl Tryz.call89 (.cons rfl (.cons rfl .nil)) (c_fit (hS.at p3) (hS.at p5) (h.ext hS.ext) ⟨by omega, by omega⟩) ?_
    rintro _ w ⟨rfl, hE⟩; replace hS := hS.step hE; clear hE
    refine sv (yNot rfl) ?_
    refine nil ?_
    show Code.wpIn _ _ _ _ _ _ _
    refine condX rfl (fun c18 => ?_) (fun c18 => ?_)
    ·
      refine exitX ?_
      show Code.wpIn _ _ _ _ _ _ _
      refine regionX rfl ?_
      refine sv (yAdd h10 rfl ⟨by omega, by omega⟩) ?_
      refine sv (yMove rfl) ?_
      refine nil ?_
      exact ⟨_, _, rfl, ⟨i + 1, L, h0, h1, h2, h3, h9, rfl, hS, (by omega), (by rw [prP_succ, rowP, if_neg (fun hh => by rw [hh] at c18; cases c18), List.append_nil]; exact hcb), rfl⟩, by omega⟩
    ·
      have hf : fitB c m i x.grade = true := by cases hq : fitB c m i x.grade; rw [hq] at c18; cases c18; rfl
      refine skipX ?_
      show Code.wpIn _ _ _ _ _ _ _
      refine seqX ?_
      refine seqX ?_
      refine regionX rfl ?_
      refine sv (fa92_2 h3) ?_
      refine sv (yLdB rfl Tryz.isAgg3 (hS.at _) rfl) ?_
      refine sv (yEql rfl rfl) ?_
      refine nil ?_
      show Code.wpIn _ _ _ _ _ _ _
      refine condX rfl (fun c21 => ?_) (fun c21 => ?_)
      ·
        simp only [Bool.and_eq_true, Bool.or_eq_true, Bool.and_eq_false_iff, Bool.or_eq_false_iff, decide_eq_true_eq, decide_eq_false_iff_not, Bool.not_eq_true, Bool.not_eq_false, Bool.not_not, Bool.not_eq_eq_eq_not, Bool.not_true, Bool.not_false, Bool.false_eq_true, Bool.true_eq_false, ne_eq, Decidable.not_not, not_false_eq_true, not_true_eq_false] at c21
        refine seqX ?_
        refine seqX ?_
        refine regionL ?_
        refine preX 2 rfl ?_
        refine sv (yMove h0) ?_
        refine sv (yMove rfl) ?_
        refine nil ?_
        show wpListIn _ _ _ _ _ _ _ _
        refine yieldU rfl (.cons rfl (.cons rfl .nil)) (hY (prP c x m i) ((i : Int), -1) w L [blk p7 [.func (.func 89) #[] ([.pointer (some ⟨p3, 0, none⟩), .pointer (some ⟨p5, 0, none⟩)] : List Value).toArray] 99, blk p5 [.int .i64 m] 3, blk p4 [.string x.name, .int .i64 x.grade, .int .i64 x.second, .int .i64 x.within, xv, .bool x.split] 92, blk p3 [.slice a c.ops.length cap, kv, nv] 26] (pre_one (by omega) hf c21) hcb hS) ?_
        clear hS hcb; rintro _ w ⟨bb, L, rfl, hcb, hS⟩
        replace hS : StX [] w0 w (blk p7 [.func (.func 89) #[] ([.pointer (some ⟨p3, 0, none⟩), .pointer (some ⟨p5, 0, none⟩)] : List Value).toArray] 99 :: blk p5 [.int .i64 m] 3 :: blk p4 [.string x.name, .int .i64 x.grade, .int .i64 x.second, .int .i64 x.within, xv, .bool x.split] 92 :: blk p3 [.slice a c.ops.length cap, kv, nv] 26 :: L) := hS
        refine endX rfl ?_
        refine sv (yNot rfl) ?_
        refine nil ?_
        show Code.wpIn _ _ _ _ _ _ _
        refine condX rfl (fun c25 => ?_) (fun c25 => ?_)
        ·
          skip
          obtain rfl : bb = false := by cases bb; rfl; simp at c25
          refine wpIn_ret (thenR (thenR (blockR (thenR (thenR (blockR ?_))))))
          refine leafX (results_none rfl _ _ _) ?_
          exact ⟨L, hS.sub (.cons _ (.cons _ (.cons _ (.cons _ (List.Sublist.refl _))))), .inr ⟨_, hcb⟩⟩
        ·
          skip
          obtain rfl : bb = true := by cases bb; simp at c25; rfl
          refine skipX ?_
          show Code.wpIn _ _ _ _ _ _ _
          refine exitX ?_
          show Code.wpIn _ _ _ _ _ _ _
          refine regionX rfl ?_
          refine sv (yAdd h10 rfl ⟨by omega, by omega⟩) ?_
          refine sv (yMove rfl) ?_
          refine nil ?_
          exact ⟨_, _, rfl, ⟨i + 1, L, h0, h1, h2, h3, h9, rfl, hS, (by omega), (by rw [prP_succ, rowP, if_pos hf, if_pos c21]; exact hcb), rfl⟩, by omega⟩
      ·
        simp only [Bool.and_eq_true, Bool.or_eq_true, Bool.and_eq_false_iff, Bool.or_eq_false_iff, decide_eq_true_eq, decide_eq_false_iff_not, Bool.not_eq_true, Bool.not_eq_false, Bool.not_not, Bool.not_eq_eq_eq_not, Bool.not_true, Bool.not_false, Bool.false_eq_true, Bool.true_eq_false, ne_eq, Decidable.not_not, not_false_eq_true, not_true_eq_false] at c21
        refine skipX ?_
        show Code.wpIn _ _ _ _ _ _ _
        refine seqX ?_
        refine regionX rfl ?_
        refine sv (fa26_0 h1) ?_
        refine sv (yLdB rfl Tryz.isAgg22 (hS.at _) rfl) ?_
        refine sv (yLen rfl Tryz.underlying22) ?_
        refine sv (yMove rfl) ?_
        refine nil ?_
        show Code.wpIn _ _ _ _ _ _ _
        refine blockX ?_
        refine loopX (fun f w zz => ∃ (k : Nat) (L : List Bx.Item), f 0 = .func (.yield yl) #[] #[] ∧ f 1 = .pointer (some ⟨p3, 0, none⟩) ∧ f 2 = .pointer (some ⟨p7, 0, none⟩) ∧ f 3 = .pointer (some ⟨p4, 0, none⟩) ∧ f 9 = .int .i64 (c.ops.length : Int) ∧ f 10 = .int .i64 (i : Int) ∧ f 5 = .int .i64 (i : Int) ∧ f 28 = .int .i64 (c.ops.length : Int) ∧ f 29 = .int .i64 (k : Int) ∧ StX [] w0 w (blk p7 [.func (.func 89) #[] ([.pointer (some ⟨p3, 0, none⟩), .pointer (some ⟨p5, 0, none⟩)] : List Value).toArray] 99 :: blk p5 [.int .i64 m] 3 :: blk p4 [.string x.name, .int .i64 x.grade, .int .i64 x.second, .int .i64 x.within, xv, .bool x.split] 92 :: blk p3 [.slice a c.ops.length cap, kv, nv] 26 :: L) ∧ (k ≤ c.ops.length) ∧ (Cb true (prP c x m i ++ inP c x m i k) L) ∧ zz = c.ops.length - k) _ ⟨_, rfl, 0, L, h0, h1, h2, h3, h9, h10, rfl, rfl, rfl, hS, (Nat.zero_le _), (by rw [show inP c x m i 0 = [] from rfl, List.append_nil]; exact hcb), rfl⟩ ?_
        clear hS
        rintro f w _ ⟨k, L, h0, h1, h2, h3, h9, h10, h5, h28, h29, hS, hk, hcb, rfl⟩
        refine seqX ?_
        refine regionX rfl ?_
        refine sv (yLss h29 h28) ?_
        refine nil ?_
        show Code.wpIn _ _ _ _ _ _ _
        refine seqX ?_
        refine condX rfl (fun c30 => ?_) (fun c30 => ?_)
        ·
          simp only [Bool.and_eq_true, Bool.or_eq_true, Bool.and_eq_false_iff, Bool.or_eq_false_iff, decide_eq_true_eq, decide_eq_false_iff_not, Bool.not_eq_true, Bool.not_eq_false, Bool.not_not, Bool.not_eq_eq_eq_not, Bool.not_true, Bool.not_false, Bool.false_eq_true, Bool.true_eq_false, ne_eq, Decidable.not_not, not_false_eq_true, not_true_eq_false] at c30
          refine skipX ?_
          show Code.wpIn _ _ _ _ _ _ _
          refine seqX ?_
          refine blockX ?_
          refine seqX ?_
          refine regionX rfl ?_
          refine sv (yMove h29) ?_
          refine sv (yAsg rfl) ?_
          refine nil ?_
          show Code.wpIn _ _ _ _ _ _ _
          refine seqX ?_
          refine regionL ?_
          refine preX 14 rfl ?_
          refine sv (yMove rfl) ?_
          refine sv (yMove h5) ?_
          refine sv (yNeq rfl rfl) ?_
          refine sv (yMove rfl) ?_
          refine sg rfl rfl rfl (fun g => (yLdB h2 Tryz.isAgg99 (hS.at _) rfl)) (fun v36 g36 => ?_)
          refine sg rfl rfl rfl (fun g => (yMove rfl)) (fun v37 g37 => ?_)
          refine sg rfl rfl rfl (fun g => (fa92_2 h3)) (fun v38 g38 => ?_)
          refine sg rfl rfl rfl (fun g => (yLdB (g38.1 g) Tryz.isAgg3 (hS.at _) rfl)) (fun v39 g39 => ?_)
          refine sgcf hS rfl rfl rfl (fun g => (g36.1 g)) Tryz.call89 (fun g => (.cons (g37.1 g) (.cons (g39.1 g) .nil))) (fun g => (c_fit (hS.at p3) (hS.at p5) (h.ext hS.ext) ⟨by omega, by omega⟩)) ?_; clear hS; intro v40 w hS g40
          refine sv (yAnd rfl (fun hB => (g40.1 hB)) rfl) ?_
          refine sv (yMove rfl) ?_
          refine sg rfl rfl rfl (fun g => (yMove h0)) (fun v43 g43 => ?_)
          refine sg rfl rfl rfl (fun g => (yMove h5)) (fun v44 g44 => ?_)
          refine sg rfl rfl rfl (fun g => (yMove rfl)) (fun v45 g45 => ?_)
          refine nil ?_
          show wpListIn _ _ _ _ _ _ _ _
          refine yieldG rfl rfl rfl (fun hne => ?_) (fun g => ⟨(g43.1 g), (.cons (g44.1 g) (.cons (g45.1 g) .nil)), (hY (prP c x m i ++ inP c x m i k) ((i : Int), (k : Int)) w L [blk p7 [.func (.func 89) #[] ([.pointer (some ⟨p3, 0, none⟩), .pointer (some ⟨p5, 0, none⟩)] : List Value).toArray] 99, blk p5 [.int .i64 m] 3, blk p4 [.string x.name, .int .i64 x.grade, .int .i64 x.second, .int .i64 x.within, xv, .bool x.split] 92, blk p3 [.slice a c.ops.length cap, kv, nv] 26] (pre_two (by omega) (by omega) hf c21 g) hcb hS), ?_⟩)
          ·
            refine endX rfl ?_
            refine sg rfl rfl rfl (fun g => (yNot (show _ = Value.bool true from absurd g hne))) (fun v47 g47 => ?_)
            refine sv (yAnd rfl (fun hB => (g47.1 hB)) rfl) ?_
            refine nil ?_
            show Code.wpIn _ _ _ _ _ _ _
            refine condX rfl (fun c48 => ?_) (fun c48 => ?_)
            ·
              skip
              exfalso; apply hne; revert c48; cases (decide ((k : Int) ≠ i) && fitB c m k x.second) <;> simp
            ·
              skip
              have hg : (decide ((k : Int) ≠ i) && fitB c m k x.second) = false := by simpa using hne
              refine skipX ?_
              show Code.wpIn _ _ _ _ _ _ _
              refine regionX rfl ?_
              refine sv (yAdd h29 rfl ⟨by omega, by omega⟩) ?_
              refine sv (yMove rfl) ?_
              refine nil ?_
              exact ⟨_, _, rfl, ⟨k + 1, L, h0, h1, h2, h3, h9, h10, h5, h28, rfl, hS, (by omega), (by rw [inP_out hg]; exact hcb), rfl⟩, by omega⟩
          ·
            have hg : (decide ((k : Int) ≠ i) && fitB c m k x.second) = true := g
            clear hS hcb; rintro _ w ⟨bb, L, rfl, hcb, hS⟩
            replace hS : StX [] w0 w (blk p7 [.func (.func 89) #[] ([.pointer (some ⟨p3, 0, none⟩), .pointer (some ⟨p5, 0, none⟩)] : List Value).toArray] 99 :: blk p5 [.int .i64 m] 3 :: blk p4 [.string x.name, .int .i64 x.grade, .int .i64 x.second, .int .i64 x.within, xv, .bool x.split] 92 :: blk p3 [.slice a c.ops.length cap, kv, nv] 26 :: L) := hS
            refine endX rfl ?_
            refine sg rfl rfl rfl (fun g => (yNot rfl)) (fun v47 g47 => ?_)
            refine sv (yAnd rfl (fun hB => (g47.1 hB)) rfl) ?_
            refine nil ?_
            show Code.wpIn _ _ _ _ _ _ _
            refine condX rfl (fun c48 => ?_) (fun c48 => ?_)
            ·
              skip
              obtain rfl : bb = false := by cases bb; rfl; simp at c48
              refine wpIn_ret (blockR (thenR (thenR (blockR (blockR (thenR (thenR (blockR ?_))))))))
              refine leafX (results_none rfl _ _ _) ?_
              exact ⟨L, hS.sub (.cons _ (.cons _ (.cons _ (.cons _ (List.Sublist.refl _))))), .inr ⟨_, hcb⟩⟩
            ·
              skip
              obtain rfl : bb = true := by cases bb; rw [hg] at c48; simp at c48; rfl
              refine skipX ?_
              show Code.wpIn _ _ _ _ _ _ _
              refine regionX rfl ?_
              refine sv (yAdd h29 rfl ⟨by omega, by omega⟩) ?_
              refine sv (yMove rfl) ?_
              refine nil ?_
              exact ⟨_, _, rfl, ⟨k + 1, L, h0, h1, h2, h3, h9, h10, h5, h28, rfl, hS, (by omega), (by rw [inP_in hg, ← List.append_assoc]; exact hcb), rfl⟩, by omega⟩
        ·
          simp only [Bool.and_eq_true, Bool.or_eq_true, Bool.and_eq_false_iff, Bool.or_eq_false_iff, decide_eq_true_eq, decide_eq_false_iff_not, Bool.not_eq_true, Bool.not_eq_false, Bool.not_not, Bool.not_eq_eq_eq_not, Bool.not_true, Bool.not_false, Bool.false_eq_true, Bool.true_eq_false, ne_eq, Decidable.not_not, not_false_eq_true, not_true_eq_false] at c30
          obtain rfl : k = c.ops.length := by omega
          refine exitX ?_
          show Code.wpIn _ _ _ _ _ _ _
          refine regionX rfl ?_
          refine sv (yAdd h10 rfl ⟨by omega, by omega⟩) ?_
          refine sv (yMove rfl) ?_
          refine nil ?_
          exact ⟨_, _, rfl, ⟨i + 1, L, h0, h1, h2, h3, h9, rfl, hS, (by omega), (by rw [prP_succ, rowP, if_pos hf, if_neg c21]; exact hcb), rfl⟩, by omega⟩
  ·
    simp only [Bool.and_eq_true, Bool.or_eq_true, Bool.and_eq_false_iff, Bool.or_eq_false_iff, decide_eq_true_eq, decide_eq_false_iff_not, Bool.not_eq_true, Bool.not_eq_false, Bool.not_not, Bool.not_eq_eq_eq_not, Bool.not_true, Bool.not_false, Bool.false_eq_true, Bool.true_eq_false, ne_eq, Decidable.not_not, not_false_eq_true, not_true_eq_false] at c11
    refine exitX ?_
    show bodyPostM (FX none) 0 _ _ _ .normal _ _
    refine leafXN (results_none rfl _ _ _) ?_
    obtain rfl : i = c.ops.length := by omega
    exact ⟨L, hS.sub (.cons _ (.cons _ (.cons _ (.cons _ (List.Sublist.refl _))))), .inl hcb⟩
end Go.Proofs.YtghgnofilbnbaaaGreat

/- part C3 -/
namespace Bx
open Go Go.RowKit
/-- A range that returns at its first round. -/
def OnceC {α : Type} (L0 : List Item) (F : α → List Item → Prop) : Option Code → List α → List Item → Prop
  | none, pre, L => pre = [] ∧ L = L0
  | some c, pre, L => c = .ret ∧ ∃ y, pre = [y] ∧ F y L
theorem head_pre {α : Type} {x : α} {l : List α} (h : ([] ++ [x]) <+: l) : l.head? = some x := by obtain ⟨r, rfl⟩ := h; rfl
theorem head_cons {α : Type} {x : α} {l : List α} (h : l.head? = some x) : ∃ r, l = x :: r := by cases l with | nil => cases h | cons y r => cases h; exact ⟨r, rfl⟩
theorem head_some {c : Crew} {x : Knd} {m : Int} {y : Int × Int} (h : (pairsL c x m).head? = some y) : ableB c x m = true := by obtain ⟨r, hr⟩ := head_cons h; unfold ableB; rw [hr]; rfl
theorem head_none {c : Crew} {x : Knd} {m : Int} (h : pairsL c x m = []) : ableB c x m = false := by unfold ableB; rw [h]; rfl
end Bx

/- part Ck9 -/
namespace Go.Proofs.YtghgnofilbnbaaaGreat
open Go Bx
set_option maxHeartbeats 1000000 in
/-- barrage/crew.able -/
theorem c_able {c : Crew} {x : Knd} {a : Option Addr} {cap : Nat} {kv nv xv : Value} {m : Int} {w0 : World} (h : RCrew w0 [.slice a c.ops.length cap, kv, nv] c) : CV Tryz.prog 43 #[.agg [.slice a c.ops.length cap, kv, nv].toArray, .agg [.string x.name, .int .i64 x.grade, .int .i64 x.second, .int .i64 x.within, xv, .bool x.split].toArray, .int .i64 m] w0 (.bool (ableB c x m)) := by
  refine enterX Tryz.func43 rfl Tryz.ntmps43 rfl ?_
  have hS := St.start w0
  refine seqX ?_
  refine regionX rfl ?_
  refine sbox hS rfl rfl ?_; clear hS; intro b3 w hS
  refine sbox hS rfl rfl ?_; clear hS; intro b4 w hS
  refine salloc hS Tryz.zeroValue4 rfl ?_; clear hS; intro b6 w hS
  refine nil ?_
  show Code.wpIn _ _ _ _ _ _ _
  refine seqX ?_
  refine seqX ?_
  refine regionX rfl ?_
  refine sv (yLdBA rfl Tryz.isAgg26 Tryz.sizeOf26 (hS.at _) rfl rfl) ?_
  refine sv (yLdBA rfl Tryz.isAgg92 Tryz.sizeOf92 (hS.at _) rfl rfl) ?_
  refine sv (yMove rfl) ?_
  refine scall Tryz.call74 (.cons rfl (.cons rfl (.cons rfl .nil))) c_pairs ?_
  rintro _ w ⟨p3, p7, p4, p5, rfl, hM⟩; replace hS := hS.call hM; clear hM
  refine nil ?_
  show Code.wpIn _ _ _ _ _ _ _
  refine blockX ?_
  refine rangeX (R := [blk p7 [.func (.func 89) #[] ([.pointer (some ⟨p3, 0, none⟩), .pointer (some ⟨p5, 0, none⟩)] : List Value).toArray] 99, blk p5 [.int .i64 m] 3, blk p4 [.string x.name, .int .i64 x.grade, .int .i64 x.second, .int .i64 x.within, xv, .bool x.split] 92, blk p3 [.slice a c.ops.length cap, kv, nv] 26]) (L0 := [blk b6 [.bool false] 4, blk b4 [.string x.name, .int .i64 x.grade, .int .i64 x.second, .int .i64 x.within, xv, .bool x.split] 92, blk b3 [.slice a c.ops.length cap, kv, nv] 26]) (ps := [11, 12]) rfl Tryz.call90 hS (it_pairs h) (fun cc pre L => OnceC [blk b6 [.bool false] 4, blk b4 [.string x.name, .int .i64 x.grade, .int .i64 x.second, .int .i64 x.within, xv, .bool x.split] 92, blk b3 [.slice a c.ops.length cap, kv, nv] 26] (fun y L => (pairsL c x m).head? = some y ∧ L = [blk b6 [.bool true] 4, blk b4 [.string x.name, .int .i64 x.grade, .int .i64 x.second, .int .i64 x.within, xv, .bool x.split] 92, blk b3 [.slice a c.ops.length cap, kv, nv] 26]) cc pre L) ⟨rfl, rfl⟩ (fun _ _ => rfl) ?_ ?_ ?_
  ·
    clear hS
    intro yl pre y w L M hpre hcb hS
    obtain ⟨rfl, rfl⟩ := hcb
    replace hS : StX [] w0 w (blk b6 [.bool false] 4 :: blk b4 [.string x.name, .int .i64 x.grade, .int .i64 x.second, .int .i64 x.within, xv, .bool x.split] 92 :: blk b3 [.slice a c.ops.length cap, kv, nv] 26 :: M) := hS
    refine skipX ?_
    refine ⟨_, [blk b6 [.bool false] 4, blk b4 [.string x.name, .int .i64 x.grade, .int .i64 x.second, .int .i64 x.within, xv, .bool x.split] 92, blk b3 [.slice a c.ops.length cap, kv, nv] 26], rfl, hS, ?_⟩
    clear hS M; intro M w hS; replace hS : StX [] w0 w (blk b6 [.bool false] 4 :: blk b4 [.string x.name, .int .i64 x.grade, .int .i64 x.second, .int .i64 x.within, xv, .bool x.split] 92 :: blk b3 [.slice a c.ops.length cap, kv, nv] 26 :: M) := hS
    refine blockX ?_
    refine seqX ?_
    refine regionX rfl ?_
    refine sst hS rfl rfl Tryz.sizeOf4 rfl rfl rfl rfl ?_; clear hS; intro w hS
    refine nil ?_
    show Code.wpIn _ _ _ _ _ _ _
    refine wpIn_ret (blockR ?_)
    exact ⟨_, ⟨rfl, _, rfl, head_pre hpre, rfl⟩, hS⟩
  ·
    clear hS
    intro D w L hcb hS
    obtain ⟨hnil, rfl⟩ := hcb
    replace hS : StX [] w0 w [obj D (.deferred (some [])), blk b6 [.bool false] 4, blk b4 [.string x.name, .int .i64 x.grade, .int .i64 x.second, .int .i64 x.within, xv, .bool x.split] 92, blk b3 [.slice a c.ops.length cap, kv, nv] 26] := hS
    show Code.wpIn _ _ _ _ _ _ _
    refine seqX ?_
    refine regionX rfl ?_
    refine sst hS rfl rfl Tryz.sizeOf4 rfl rfl rfl rfl ?_; clear hS; intro w hS
    refine nil ?_
    show Code.wpIn _ _ _ _ _ _ _
    refine wpIn_ret ?_
    refine leafD hS (fun w hS => (resV1 rfl (rc1 rfl Tryz.isAgg4 (hS.at b6) rfl))) (fun w hS => ?_)
    exact ⟨by (rw [show ableB c x m = false from head_none hnil]; try rfl), hS.ext⟩
  ·
    intro D w L cc pre hcb hS
    obtain ⟨rfl, y, hy, hhd, rfl⟩ := hcb
    replace hS : StX [] w0 w [obj D (.deferred (some [])), blk b6 [.bool true] 4, blk b4 [.string x.name, .int .i64 x.grade, .int .i64 x.second, .int .i64 x.within, xv, .bool x.split] 92, blk b3 [.slice a c.ops.length cap, kv, nv] 26] := hS
    refine wpIn_ret (blockR (thenR ?_))
    refine leafD hS (fun w hS => (resV1 rfl (rc1 rfl Tryz.isAgg4 (hS.at b6) rfl))) (fun w hS => ?_)
    exact ⟨by rw [show ableB c x m = true from head_some hhd], hS.ext⟩
end Go.Proofs.YtghgnofilbnbaaaGreat

/- part LibD -/
namespace Bx
open Go Go.RowKit
section
variable {κ : Type} [DecidableEq κ] {P : Program}
def delM : List (κ × Value) → κ → List (κ × Value)
  | [], _ => []
  | (a, x) :: m, k => if k = a then m else (a, x) :: delM m k
theorem findNow_del {d : TypeDesc} {enc : κ → Value} (hd : ∀ a b, Instr.sameNow d (enc a) (enc b) = some (decide (a = b))) (k : κ) : ∀ (es : List MapEntry) (m : List (κ × Value)) (i : Nat), es.map (fun (e : MapEntry) => (e.key, e.val)) = m.map (fun p => (enc p.1, p.2)) →
    ∃ r, Instr.findNow d (enc k) es i = some r ∧
      (∀ j v0, r = some (j, v0) → ∃ l, j = i + l ∧ l < es.length ∧ (es.eraseIdx l).map (fun (e : MapEntry) => (e.key, e.val)) = (delM m k).map (fun p => (enc p.1, p.2))) ∧
      (r = none → delM m k = m)
  | [], m, i, h => by
    obtain rfl : m = [] := by simpa using h.symm
    exact ⟨none, rfl, (fun _ _ e => by cases e), fun _ => rfl⟩
  | e :: es, m, i, h => by
    cases m with
    | nil => simp at h
    | cons p m =>
      obtain ⟨a, x⟩ := p
      simp only [List.map_cons, List.cons.injEq, Prod.mk.injEq] at h
      obtain ⟨⟨h1, h2⟩, h3⟩ := h
      by_cases hka : k = a
      · subst hka
        refine ⟨some (i, e.val), by simp [Instr.findNow, h1, hd], ?_, fun e => by cases e⟩
        intro j v0 hj
        simp only [Option.some.injEq, Prod.mk.injEq] at hj
        refine ⟨0, by omega, by simp, ?_⟩
        simp [delM, h3]
      · obtain ⟨r, hr1, hr3, hr4⟩ := findNow_del hd k es m (i + 1) h3
        refine ⟨r, by simp [Instr.findNow, h1, hd, hka, hr1], ?_, ?_⟩
        · intro j v0 hj
          obtain ⟨l, rfl, hl, hv⟩ := hr3 j v0 hj
          refine ⟨l + 1, by omega, by simp; omega, ?_⟩
          simp only [List.eraseIdx_cons_succ, List.map_cons, delM, hka, if_false, h1, h2, hv]
        · intro hn
          simp only [delM, hka, if_false, hr4 hn]
theorem run_delete {w : World} {T K E ty : TypeId} {b : Nat} {enc : κ → Value} {m : List (κ × Value)} {k : κ} (hT : ∀ w, (underlying T).run P w = .ok (.map K E) w) (hk : KeyOk P K enc)
    (hb : ∃ o, w.heap[b]? = some o ∧ MapOk enc m o) : ∃ o' w', (Builtin.delete_ #[T, K] ty #[.map (some b), enc k]).run P w = .ok (.tuple #[]) w' ∧ Put b o' w w' ∧ MapOk enc (delM m k) o' := by
  obtain ⟨o, hb, es, c, rfl, hm⟩ := hb
  obtain ⟨d, hd, hs, h2⟩ := hk.und
  obtain ⟨r, hr, hsome, hnone⟩ := findNow_del hs k es.toList m 0 hm
  have hget : (getObj b).run P w = .ok (.map es c) w := by simp [getObj, Sem.run, hb]
  have hlt : b < w.heap.size := lt_of_heap hb
  have hset : ∀ o', (setObj b o').run P w = .ok () { w with heap := w.heap.setIfInBounds b o' } := fun o' => by simp [setObj, Sem.run, hb]
  have hput : ∀ o', Put b o' w { w with heap := w.heap.setIfInBounds b o' } := fun o' => by
    refine ⟨rfl, rfl, rfl, by simp, by simp [hlt], fun j _ hj => ?_⟩
    show (w.heap.setIfInBounds b o')[j]? = _
    rw [Array.getElem?_setIfInBounds, if_neg (fun e => hj e.symm)]
  cases r with
  | none =>
    refine ⟨.map es c, _, ?_, hput _, _, _, rfl, ?_⟩
    · simp [Builtin.delete_, hT, hget, run_checkKey hk, Instr.findKey, run_underlying hd, hr, hset]
    · rw [hnone rfl]; exact hm
  | some p =>
    obtain ⟨j, v0⟩ := p
    obtain ⟨l, hj, hl, hv⟩ := hsome j v0 rfl
    rw [Nat.zero_add] at hj
    subst hj
    have hl' : j < es.size := by simpa using hl
    refine ⟨.map (es.eraseIdxIfInBounds j) c, _, ?_, hput _, _, _, rfl, ?_⟩
    · simp [Builtin.delete_, hT, hget, run_checkKey hk, Instr.findKey, run_underlying hd, hr, hset]
    · rw [Array.eraseIdxIfInBounds, dif_pos hl', Array.toList_eraseIdx]
      exact hv
end
section
variable {P : Program} {ops : Array Oper} {Q : Exit → Act → World → Prop} {n : Nat} {f : Fr} {S : List Nat} {w0 w w' : World} {L L' : List Item} {rest : List Oper} {d : Nat} {ty : TypeId} {pos : String} {af : Array Edge}
variable {κ : Type} [DecidableEq κ]
theorem sdel (enc : κ → Value) {T K E K' : TypeId} {xm xk : Operand} {b : Nat} {m : List (κ × Value)} {k : κ} (hS : StX S w0 w L) (hm : ev n f xm = .map (some b)) (hx : ev n f xk = enc k) (hT : ∀ w, (underlying T).run P w = .ok (.map K E) w)
    (hk : KeyOk P K enc) [i : AtB L b (MapOk enc m)] [j : SetB L b (MapOk enc (delM m k)) L'] (h : ∀ w', StX S w0 w' L' → wpL P ops Q n rest f w') : wpL P ops Q n (⟨none, .call ⟨.builtin .delete, #[xm, xk], #[T, K']⟩, ty, pos, af, none⟩ :: rest) f w := by
  obtain ⟨o', w', hr, hp, ho⟩ := run_delete (ty := ty) (k := k) hT hk (hS.is b)
  have hfin := h w' (hS.puts hp ho)
  have hr' : (Builtin.delete_ #[T, K'] ty #[.map (some b), enc k]).run P w = .ok (.tuple #[]) w' := by
    have e : Builtin.delete_ #[T, K'] ty #[.map (some b), enc k] = Builtin.delete_ #[T, K] ty #[.map (some b), enc k] := rfl
    rw [e]; exact hr
  have hrun : (xop (ev n f) (.call ⟨.builtin .delete, #[xm, xk], #[T, K']⟩) ty).run P w = .ok (.value (.tuple #[])) w' := by
    simp [xop, execOp, resolve, hm, hx, invoke, builtin, hr']
  refine wpL_run rfl ?_
  unfold Oper.wp
  rw [mk_eval, execOp_xop, hrun]
  exact hfin
end
/-! ### a set of numbers -/
def opM (l : List Int) : List (Int × Value) := l.map fun i => (i, .bool true)
theorem getM_opM (l : List Int) (k : Int) : (getM (opM l) k).getD (.bool false) = .bool (decide (k ∈ l)) := by
  unfold opM
  induction l with
  | nil => rfl
  | cons a l ih =>
    simp only [List.map_cons, getM]
    by_cases h : k = a
    · rw [if_pos h]; simp [h]
    · rw [if_neg h, ih]; simp [h]
theorem setM_opM {l : List Int} {k : Int} (h : k ∉ l) : setM (opM l) k (.bool true) = opM (l ++ [k]) := by
  unfold opM
  induction l with
  | nil => rfl
  | cons a l ih =>
    rw [List.mem_cons, not_or] at h
    simp only [List.map_cons, List.cons_append, setM, if_neg h.1, ih h.2]
theorem delM_opM (l : List Int) (k : Int) : delM (opM l) k = opM (l.erase k) := by
  unfold opM
  induction l with
  | nil => rfl
  | cons a l ih =>
    simp only [List.map_cons, delM]
    by_cases h : k = a
    · subst h; simp
    · rw [if_neg h, List.erase_cons_tail (by simpa using fun e => h e.symm), ih]; rfl
end Bx

/- part LibN -/
namespace Bx
open Go Go.RowKit
section
variable {P : Program} {ops : Array Oper} {Q : Exit → Act → World → Prop} {n : Nat} {f : Fr} {w w0 : World} {S : List Nat} {L L' : List Item} {rest : List Oper} {d : Nat} {ty : TypeId} {pos : String} {af : Array Edge} {ρ : Operand → Value}
/-- Two numbers of a kind, by what the model says of them. -/
theorem yBin {b : BinOp} {x y : Operand} {k k' : IntKind} {p q : Int} {v : Value} {t t' : TypeId} (hx : ρ x = .int k p) (hy : ρ y = .int k' q) (hb : (!(b matches .eql | .neq)) = true) (h : ∀ w, (Go.binOp b t (.int k p) (.int k' q)).run P w = .ok v w) : Y P ρ (.binOp b t x y t') ty w v w := by
  simp only [Y, xop, execOp, hx, hy, eqGuard, hb, if_true, Sem.run_bind, Sem.run_pure, Result.andThen_ok, h, ite_self]
theorem yShr32 {x y : Operand} {a : Int} {t t' : TypeId} (hx : ρ x = .int .u64 a) (hy : ρ y = .int .u64 32) (h : 0 ≤ a ∧ a ≤ 4294967295) : Y P ρ (.binOp .shr t x y t') ty w (.int .u64 0) w := by
  have e : a.fdiv 4294967296 = 0 := by rw [Int.fdiv_eq_ediv]; simp; omega
  simp [Y, xop, execOp, hx, hy, eqGuard, Go.binOp, Op.shift, IntKind.bits, e]
theorem yU {x y : Operand} {b : BinOp} {p q r : Int} {t t' : TypeId} (hx : ρ x = .int .u64 p) (hy : ρ y = .int .u64 q) (hb : b = .add ∧ r = p + q ∨ b = .mul ∧ r = p * q) (hr : 0 ≤ r ∧ r ≤ 18446744073709551615) : Y P ρ (.binOp b t x y t') ty w (.int .u64 r) w := by
  rcases hb with ⟨rfl, rfl⟩ | ⟨rfl, rfl⟩
  · exact Y.to (yAddW hx hy) (by rw [IntWalk.u64_in _ hr])
  · exact Y.to (yMulW hx hy) (by rw [IntWalk.u64_in _ hr])
/-- copy into a block of the call's own, from its place o on. -/
theorem scopyB {dT sT E T : TypeId} {xd xs : Operand} {g o dLen dCap sLen sCap : Nat} {ad : Addr} {cs news : List Value} (hS : StX S w0 w L) (hd : ev n f xd = .slice (some ⟨g, o, none⟩) dLen dCap) (hx : ev n f xs = .slice (some ad) sLen sCap)
    (hu : P.underlying dT = some (.slice E)) (hs : (P.info? E).map (·.size) = some 1) [i : AtB L g (Eq (.cells cs.toArray T (0, 0)))] (hn : news.length = Nat.min sLen dLen) (hsrc : ∀ j v, news[j]? = some v → w.cell? (ad.add j) = some v) (hfit : o + news.length ≤ cs.length) (h1 : news.all (·.oneCell') = true)
    [j : SetB L g (Eq (.cells (splice cs o news).toArray T (0, 0))) L'] (h : ∀ w', StX S w0 w' L' → wpL P ops Q n rest (upd f d (.int .i64 (news.length : Int))) w') : wpL P ops Q n (⟨some d, .call ⟨.builtin .copy, #[xd, xs], #[dT, sT]⟩, ty, pos, af, none⟩ :: rest) f w := by
  have hg := hS.at g (o := .cells cs.toArray T (0, 0))
  have hrun := run_copy_row (P := P) w dT sT ty E g o dLen dCap ad sLen sCap cs.toArray T news hu hs hg hn hsrc (by simpa using hfit) (fun v hv => List.all_eq_true.1 h1 v hv)
  have hp : Put g (.cells (splice cs o news).toArray T (0, 0)) w (w.setRow g (splice cs o news).toArray) := put_setRow hg
  refine sv (v := goInt news.length) (w' := w.setRow g (splice cs o news).toArray) ?_ (h _ (hS.put hp))
  simp [Y, xop, execOp, resolve, invoke, builtin, hd, hx, hrun, Bx.splice]
theorem yTailLt {T E : TypeId} {x xi : Operand} {g cap i k m : Nat} {kd : IntKind} (hx : ρ x = .slice (some ⟨g, 0, none⟩) m cap) (hi : ρ xi = .int kd (i : Int)) (hu : P.underlying T = some (.slice E)) (hs : ∀ w, (Go.sizeOf E).run P w = .ok k w) (hm : i ≤ m) (hc : i < cap) :
    Y P ρ (.slice T x (some xi) none none) ty w (.slice (some ⟨g, i * k, none⟩) (m - i) (cap - i)) w := by
  have := yTail (P := P) (ty := ty) (w := w) hx hi hu hs hm
  rwa [tailV, if_neg (by omega)] at this
end
end Bx

/- part C4 -/
namespace Bx
open Go Go.RowKit
structure Acn where
  tm : Int
  who : Int
  dw : Int
  what : Int
  to : Int
  subj : Int
structure Ord where
  giv : Int
  conf : Int
  kind : Int
  subj : Int
  tm : Int
structure Rm where
  now : Int
  hold : List Int
  opn : List Int
  ords : List Ord
def actC (a : Acn) : List Value := [.int .i64 a.tm, .int .i64 a.who, .int .i64 a.dw, .int .i64 a.what, .int .i64 a.to, .int .i64 a.subj]
def ordC (o : Ord) : List Value := [.int .i64 o.giv, .int .i64 o.conf, .int .i64 o.kind, .int .i64 o.subj, .int .i64 o.tm]
theorem ordC_len (o : Ord) : (ordC o).length = 5 := rfl
def RAct (_ : World) (cs : List Value) (a : Acn) : Prop := cs = actC a ∧ I64 a.tm ∧ I64 a.who ∧ I64 a.dw ∧ I64 a.what ∧ I64 a.to ∧ I64 a.subj
theorem RAct.stays : Stays RAct := fun _ _ _ _ _ h => h
abbrev nAct : Acn := ⟨0, 0, 0, 0, 0, 0⟩
def manyA (c : Crew) (i : Int) (a : Acn) : Int := if a.dw = 4 then c.kinds.length else if a.dw = 5 ∨ a.dw = 6 then i else c.keys.length
def argA (a : Acn) : Bool := (outB a.dw 1 6 || (!decide (a.dw = 2) && decide (a.to ≠ 0))) || (decide (a.dw ≠ 4) && decide (a.subj ≠ 0))
def noneA (c : Crew) (i : Int) (a : Acn) : Bool := outB a.what 0 (manyA c i a - 1) || outB a.to 0 ((c.ops.length : Int) - 1)
def actE (c : Crew) (i : Int) (a : Acn) : Int :=
  if neverB a.tm = true then 7 else if outB a.who 0 ((c.ops.length : Int) - 1) = true then 4 else if argA a = true then 2 else if noneA c i a = true then 4
  else if (decide (a.dw = 2) && decide (a.to = a.who)) = true then 2 else if outB a.subj 0 1000 = true then 7 else 0
structure ActOk (c : Crew) (i : Int) (a : Acn) : Prop where
  tm : 0 ≤ a.tm ∧ a.tm ≤ 100000
  who : 0 ≤ a.who ∧ a.who < c.ops.length
  dw : 1 ≤ a.dw ∧ a.dw ≤ 6
  what : 0 ≤ a.what ∧ a.what < manyA c i a
  to : 0 ≤ a.to ∧ a.to < c.ops.length
  subj : 0 ≤ a.subj ∧ a.subj ≤ 1000
  sub0 : a.dw ≠ 4 → a.subj = 0
  to0 : a.dw ≠ 2 → a.to = 0
  tow : a.dw = 2 → a.to ≠ a.who
theorem actOk_iff (c : Crew) (i : Int) (a : Acn) : actE c i a = 0 ↔ ActOk c i a := by
  unfold actE argA noneA
  constructor
  · intro h
    split at h
    · cases h
    split at h
    · cases h
    split at h
    · cases h
    split at h
    · cases h
    split at h
    · cases h
    split at h
    · cases h
    rename_i h1 h2 h3 h4 h5 h6
    simp only [Bool.not_eq_true, Bool.or_eq_false_iff, outB_false, neverB, Bool.and_eq_false_iff, Bool.not_eq_false, Bool.not_eq_eq_eq_not, Bool.not_false, decide_eq_true_eq, decide_eq_false_iff_not, Decidable.not_not, ne_eq] at h1 h2 h3 h4 h5 h6
    exact ⟨h1, by omega, by omega, by omega, by omega, h6, by omega, by omega, by omega⟩
  · intro h
    obtain ⟨h1, h2, h3, h4, h5, h6, h7, h8, h9⟩ := h
    rw [if_neg (by rw [Bool.not_eq_true, neverB, outB_false]; exact h1), if_neg (by rw [Bool.not_eq_true, outB_false]; omega), if_neg, if_neg (by rw [Bool.not_eq_true, Bool.or_eq_false_iff, outB_false, outB_false]; omega), if_neg, if_neg (by rw [Bool.not_eq_true, outB_false]; exact h6)]
    · simp only [Bool.not_eq_true, Bool.and_eq_false_iff, decide_eq_false_iff_not]; omega
    · simp only [Bool.not_eq_true, Bool.or_eq_false_iff, outB_false, Bool.and_eq_false_iff, Bool.not_eq_eq_eq_not, Bool.not_false, decide_eq_true_eq, decide_eq_false_iff_not, ne_eq, Decidable.not_not]; omega
/-! ### keys that are held -/
abbrev idxI (by_ : List Int) (h : Int) : Int := idxF (fun y => decide (h = y)) by_ 0
def holdAt (hold : List Int) (k : Int) : Int := hold.getD k.toNat (-1)
def allH (hold by_ ks : List Int) : Bool := ks.all fun k => decide (0 ≤ idxI by_ (holdAt hold k))
def stepH (hold by_ : List Int) (e : List Int) (k : Int) : List Int := if idxI by_ (holdAt hold k) < 0 then e else e.modify (idxI by_ (holdAt hold k)).toNat (· + 1)
def foldH (hold by_ ks : List Int) : List Int := ks.foldl (stepH hold by_) (List.replicate by_.length 0)
theorem foldH_take {hold by_ ks : List Int} {j : Nat} {k : Int} (h : ks[j]? = some k) : foldH hold by_ (ks.take (j + 1)) = stepH hold by_ (foldH hold by_ (ks.take j)) k := by
  unfold foldH; rw [take_snoc h, List.foldl_append]; rfl
theorem stepH_len (hold by_ e : List Int) (k : Int) : (stepH hold by_ e k).length = e.length := by unfold stepH; split <;> simp
theorem foldl_stepH_len (hold by_ : List Int) : ∀ (ks e : List Int), (ks.foldl (stepH hold by_) e).length = e.length
  | [], _ => rfl
  | k :: ks, e => by rw [List.foldl_cons, foldl_stepH_len, stepH_len]
theorem foldH_len (hold by_ ks : List Int) : (foldH hold by_ ks).length = by_.length := by unfold foldH; rw [foldl_stepH_len]; simp
theorem stepH_bd {hold by_ e : List Int} {k : Int} {b : Int} (h : ∀ x ∈ e, 0 ≤ x ∧ x ≤ b) : ∀ x ∈ stepH hold by_ e k, 0 ≤ x ∧ x ≤ b + 1 := by
  unfold stepH
  split
  · intro x hx; have := h x hx; omega
  · intro x hx
    obtain ⟨i, hi, rfl⟩ := List.getElem_of_mem hx
    have hi' : i < e.length := by simpa using hi
    rw [List.getElem_modify]
    have := h e[i] (List.getElem_mem hi')
    split <;> omega
theorem foldl_stepH_bd (hold by_ : List Int) : ∀ (ks e : List Int) (b : Int), (∀ x ∈ e, 0 ≤ x ∧ x ≤ b) → ∀ x ∈ ks.foldl (stepH hold by_) e, 0 ≤ x ∧ x ≤ b + ks.length
  | [], e, b, h => fun x hx => by have := h x hx; simp; omega
  | k :: ks, e, b, h => fun x hx => by
    have := foldl_stepH_bd hold by_ ks _ (b + 1) (stepH_bd h) x hx
    simp only [List.length_cons]; omega
theorem foldH_bd (hold by_ ks : List Int) : ∀ x ∈ foldH hold by_ ks, 0 ≤ x ∧ x ≤ ks.length := by
  intro x hx
  have := foldl_stepH_bd hold by_ ks _ 0 (by intro x hx; rw [List.mem_replicate] at hx; omega) x hx
  omega
/-! ### the acts -/
def actAt (acts : List Acn) (i : Int) : Acn := acts.getD i.toNat nAct
def gradeOf (c : Crew) (i : Int) : Int := (oprAt c i).grade
def orderF (c : Crew) (i : Int) (a : Acn) (st : Rm) : Int × Rm :=
  let x := kndAt c a.what
  if gradeOf c a.who < x.grade then (203, st) else if 0 < x.second then (0, { st with opn := st.opn ++ [i] }) else if allH st.hold [a.who] x.keys = false then (202, st)
  else (0, { st with ords := st.ords ++ [⟨i, -1, a.what, a.subj, a.tm⟩] })
def minL : List Int → Int
  | [] => 0
  | x :: l => l.foldl min x
def confE (c : Crew) (acts : List Acn) (a : Acn) (st : Rm) : Int :=
  let o := actAt acts a.what
  let x := kndAt c o.what
  if a.what ∉ st.opn then 206 else if o.tm + x.within < a.tm then 205 else if a.who = o.who then 204 else if gradeOf c a.who < x.second then 203 else if onB c o.who a.tm = false then 201
  else if (allH st.hold [a.who, o.who] x.keys && (!x.split || decide (0 < minL (foldH st.hold [a.who, o.who] x.keys)))) = false then 202 else 0
def confirmF (c : Crew) (acts : List Acn) (i : Int) (a : Acn) (st : Rm) : Int × Rm :=
  if confE c acts a st ≠ 0 then (confE c acts a st, st) else (0, { st with opn := st.opn.erase a.what, ords := st.ords ++ [⟨a.what, i, (actAt acts a.what).what, (actAt acts a.what).subj, a.tm⟩] })
def cancE (c : Crew) (acts : List Acn) (a : Acn) (st : Rm) : Int :=
  if a.what ∉ st.opn then 206 else if (decide (a.who = (actAt acts a.what).who) || decide (gradeOf c (actAt acts a.what).who < gradeOf c a.who)) = false then 203 else 0
def cancelF (c : Crew) (acts : List Acn) (a : Acn) (st : Rm) : Int × Rm := if cancE c acts a st ≠ 0 then (cancE c acts a st, st) else (0, { st with opn := st.opn.erase a.what })
def takeF (c : Crew) (a : Acn) (st : Rm) : Int × Rm := if (decide (holdAt st.hold a.what < 0) || !onB c (holdAt st.hold a.what) a.tm) = false then (202, st) else (0, { st with hold := st.hold.set a.what.toNat a.who })
def giveF (a : Acn) (to : Int) (st : Rm) : Int × Rm := if holdAt st.hold a.what ≠ a.who then (202, st) else (0, { st with hold := st.hold.set a.what.toNat to })
def doneF (c : Crew) (acts : List Acn) (i : Int) (a : Acn) (st : Rm) : Int × Rm :=
  if a.dw = 1 then takeF c a st else if a.dw = 2 then giveF a a.to st else if a.dw = 3 then giveF a (-1) st else if a.dw = 4 then orderF c i a st else if a.dw = 5 then confirmF c acts i a st else cancelF c acts a st
def dutyA (c : Crew) (a : Acn) : Bool := onB c a.who a.tm && (decide (a.dw ≠ 2) || onB c a.to a.tm)
def doF (c : Crew) (acts : List Acn) (i : Int) (a : Acn) (st : Rm) : Int × Rm :=
  if a.tm < st.now then (200, st) else if dutyA c a = false then (201, { st with now := a.tm }) else doneF c acts i a { st with now := a.tm }
structure RmOk (c : Crew) (acts : List Acn) (i : Nat) (st : Rm) : Prop where
  now : 0 ≤ st.now ∧ st.now ≤ 100000
  len : st.hold.length = c.keys.length
  hold : ∀ h ∈ st.hold, -1 ≤ h ∧ h < c.ops.length
  opn : ∀ j ∈ st.opn, 0 ≤ j ∧ j < i ∧ (actAt acts j).dw = 4
  nord : st.ords.length ≤ i
  ords : ∀ o ∈ st.ords, (0 ≤ o.giv ∧ o.giv < i) ∧ (-1 ≤ o.conf ∧ o.conf < i) ∧ (0 ≤ o.kind ∧ o.kind < c.kinds.length) ∧ (0 ≤ o.subj ∧ o.subj ≤ 1000) ∧ (0 ≤ o.tm ∧ o.tm ≤ 100000)
end Bx

/- part C5 -/
namespace Bx
open Go Go.RowKit
theorem min_take {l : List Int} {y z : Int} {k : Nat} (hk : 1 ≤ k) (h : l[k]? = some z) : min (((l.drop 1).take (k - 1)).foldl min y) z = ((l.drop 1).take (k + 1 - 1)).foldl min y := by
  obtain ⟨j, rfl⟩ : ∃ j, k = j + 1 := ⟨k - 1, by omega⟩
  rw [Nat.add_sub_cancel, Nat.add_sub_cancel, take_snoc (l := l.drop 1) (k := j) (x := z) (by rw [List.getElem?_drop, Nat.add_comm]; exact h), List.foldl_append]
  rfl
theorem min_all {l : List Int} {y : Int} (h : l = y :: l.drop 1) : ((l.drop 1).take (l.length - 1)).foldl min y = minL l := by
  rw [List.take_of_length_le (by simp)]
  conv => rhs; rw [h]
  rfl
theorem and_k {P : Program} {t : TypeId} {k : Nat} (hk : k ≤ 8) (w : World) : (Go.binOp .and t (.int .u64 (k : Int)) (.int .u64 4294967295)).run P w = .ok (.int .u64 (k : Int)) w := by
  have : k = 0 ∨ k = 1 ∨ k = 2 ∨ k = 3 ∨ k = 4 ∨ k = 5 ∨ k = 6 ∨ k = 7 ∨ k = 8 := by omega
  rcases this with rfl | rfl | rfl | rfl | rfl | rfl | rfl | rfl | rfl <;> rfl
theorem and_1 {P : Program} {t : TypeId} (w : World) : (Go.binOp .and t (.int .u64 1) (.int .u64 4294967295)).run P w = .ok (.int .u64 1) w := rfl
theorem and_0 {P : Program} {t : TypeId} (w : World) : (Go.binOp .and t (.int .u64 0) (.int .u64 4294967295)).run P w = .ok (.int .u64 0) w := rfl
/-- The cells of a row that is filled by copies of its head. -/
def repC (k n : Nat) : List Value := List.replicate k (.int .i64 (-1)) ++ List.replicate (n - k) (.int .i64 0)
theorem repC_len {k n : Nat} (h : k ≤ n) : (repC k n).length = n := by simp [repC]; omega
theorem repC_zero (n : Nat) : (List.replicate n [Value.int .i64 0]).flatten = repC 0 n := by
  simp only [repC, List.replicate_zero, List.nil_append, Nat.sub_zero]
  induction n with
  | zero => rfl
  | succ n ih => rw [List.replicate_succ, List.flatten_cons, ih, List.replicate_succ]; rfl
theorem repC_full (n : Nat) : repC n n = List.replicate n (.int .i64 (-1)) := by simp [repC]
theorem repC_copy {k m n : Nat} (h : k + m ≤ n) : splice (repC k n) k (List.replicate m (.int .i64 (-1))) = repC (k + m) n := by
  unfold splice repC
  have e1 : (List.replicate k (Value.int .i64 (-1)) ++ List.replicate (n - k) (Value.int .i64 0)).take k = List.replicate k (.int .i64 (-1)) := by
    rw [List.take_append_of_le_length (by simp), List.take_replicate, Nat.min_self]
  have e2 : (List.replicate k (Value.int .i64 (-1)) ++ List.replicate (n - k) (Value.int .i64 0)).drop (k + m) = List.replicate (n - (k + m)) (.int .i64 0) := by
    rw [List.drop_append, List.drop_eq_nil_of_le (by simp), List.nil_append, List.length_replicate, Nat.add_sub_cancel_left, List.drop_replicate]
    congr 1; omega
  rw [List.length_replicate, e1, e2, List.replicate_append_replicate]
theorem repC_get {k n j : Nat} {v : Value} {m : Nat} (hm : m ≤ k) (h : (List.replicate m (Value.int .i64 (-1)))[j]? = some v) : (repC k n)[j]? = some v := by
  rw [List.getElem?_replicate] at h
  split at h
  · cases h
    unfold repC
    rw [List.getElem?_append_left (by simp; omega), List.getElem?_replicate, if_pos (by omega)]
  · cases h
theorem rep_src {b m : Nat} {w : World} (hm : m ≤ 1) (hb : w.heap[b]? = some (.cells ([.int .i64 (-1)] : List Value).toArray 3 (0, 0))) : ∀ j v, (List.replicate m (Value.int .i64 (-1)))[j]? = some v → w.cell? ((⟨b, 0, none⟩ : Addr).add j) = some v := by
  intro j v h
  rw [List.getElem?_replicate] at h
  split at h
  · cases h
    rw [addr_add]
    obtain rfl : j = 0 := by omega
    exact cell_of hb rfl
  · cases h
theorem rep_src2 {b m k n : Nat} {w : World} (hm : m ≤ k) (hb : w.heap[b]? = some (.cells (repC k n).toArray 3 (0, 0))) : ∀ j v, (List.replicate m (Value.int .i64 (-1)))[j]? = some v → w.cell? ((⟨b, 0, none⟩ : Addr).add j) = some v := by
  intro j v h
  rw [addr_add]
  exact cell_of hb (by rw [Nat.zero_add]; exact repC_get hm h)
theorem rep_one (m : Nat) : (List.replicate m (Value.int .i64 (-1))).all (·.oneCell') = true := by
  rw [List.all_eq_true]
  intro v hv
  rw [(List.mem_replicate.1 hv).2]
  rfl
end Bx

/- part Ck10 -/
namespace Go.Proofs.YtghgnofilbnbaaaGreat
open Go Bx
/-- barrage/crew.act closure 1 -/
theorem c_act1 {x many : Int} {w0 : World} (h : 0 ≤ many ∧ many ≤ 9223372036854775807) : CV Tryz.prog 60 #[.int .i64 x, .int .i64 many] w0 (.bool (outB x 0 (many - 1))) := by
  refine enter Tryz.func60 rfl Tryz.ntmps60 rfl ?_
  have hS := St.start w0
  refine seq ?_
  refine region ?_
  refine sv (yAsg rfl) ?_
  refine nil ?_
  show Code.wp _ _ _ _ _
  refine seq ?_
  refine region ?_
  refine sv (yMove rfl) ?_
  refine sv (yMove rfl) ?_
  refine sv (ySub rfl rfl ⟨by omega, by omega⟩) ?_
  refine scall Tryz.call45 (.cons rfl (.cons rfl (.cons rfl .nil))) c_out ?_
  rintro _ w ⟨rfl, hE⟩; replace hS := hS.step hE; clear hE
  refine sv (yAsg rfl) ?_
  refine nil ?_
  show Code.wp _ _ _ _ _
  refine wp_ret ?_
  exact retV (res1 rfl rfl) hS.ext
set_option maxHeartbeats 2000000 in
/-- barrage/crew.act -/
theorem c_act {c : Crew} {cs : List Value} {i : Nat} {x : Acn} {w0 : World} (h : RCrew w0 cs c) (hi : i ≤ 1000) : CV Tryz.prog 35 #[.agg cs.toArray, .int .i64 (i : Int), .agg (actC x).toArray] w0 (.int .i64 (actE c i x)) := by
  obtain ⟨ov, kv, nv, rfl, hso, hsk, hsn, hrm⟩ := id h
  obtain ⟨a, cap, rfl, hcap, hmx, hel⟩ := id hso
  obtain ⟨ak, ck, rfl, hkcap, hkmx, -⟩ := id hsk
  obtain ⟨an, cn, rfl, hncap, hnmx, -⟩ := id hsn
  have hmany : 0 ≤ manyA c i x ∧ manyA c i x ≤ 9223372036854775807 := by unfold manyA; split; omega; split <;> omega
  refine enter Tryz.func35 rfl Tryz.ntmps35 rfl ?_
  have hS := St.start w0
  refine seq ?_
  refine region ?_
  refine sbox hS rfl rfl ?_; clear hS; intro b3 w hS
  refine sbox hS rfl rfl ?_; clear hS; intro b5 w hS
  refine sv (yAsg rfl) ?_
  refine nil ?_
  show Code.wp _ _ _ _ _
  refine seq ?_
  refine region ?_
  refine sv (yAsg rfl) ?_
  refine nil ?_
  show Code.wp _ _ _ _ _
  refine seq ?_
  refine region ?_
  refine sv (fa26_1 rfl) ?_
  refine sv (yLdB rfl Tryz.isAgg23 (hS.at _) rfl) ?_
  refine sv (yLen rfl Tryz.underlying23) ?_
  refine sv (yAsg rfl) ?_
  refine nil ?_
  show Code.wp _ _ _ _ _
  refine seqJ (n := 90) (fun f w => f 1 = .int .i64 (i : Int) ∧ f 3 = .pointer (some ⟨b3, 0, none⟩) ∧ f 5 = .pointer (some ⟨b5, 0, none⟩) ∧ f 6 = .int .i64 0 ∧ f 7 = .func (.func 60) #[] #[] ∧ f 8 = .int .i64 (manyA c i x) ∧ StX [] w0 w [blk b5 [.int .i64 x.tm, .int .i64 x.who, .int .i64 x.dw, .int .i64 x.what, .int .i64 x.to, .int .i64 x.subj] 86, blk b3 [.slice a c.ops.length cap, .slice ak c.keys.length ck, .slice an c.kinds.length cn] 26] ∧ True) ?_ ?_
  ·
    refine seq ?_
    refine region ?_
    refine sv (fa86_2 rfl) ?_
    refine sv (yLdB rfl Tryz.isAgg3 (hS.at _) rfl) ?_
    refine nil ?_
    show Code.wp _ _ _ _ _
    refine block ?_
    refine seq ?_
    refine region ?_
    refine sv (yEql rfl rfl) ?_
    refine sv (yAsg rfl) ?_
    refine nil ?_
    show Code.wp _ _ _ _ _
    refine cond rfl (fun c15 => ?_) (fun c15 => ?_)
    ·
      simp only [Bool.and_eq_true, Bool.or_eq_true, Bool.and_eq_false_iff, Bool.or_eq_false_iff, decide_eq_true_eq, decide_eq_false_iff_not, Bool.not_eq_true, Bool.not_eq_false, Bool.not_not, Bool.not_eq_eq_eq_not, Bool.not_true, Bool.not_false, Bool.false_eq_true, Bool.true_eq_false, ne_eq, Decidable.not_not, not_false_eq_true, not_true_eq_false] at c15
      refine region ?_
      refine sv (fa26_2 rfl) ?_
      refine sv (yLdB rfl Tryz.isAgg24 (hS.at _) rfl) ?_
      refine sv (yLen rfl Tryz.underlying24) ?_
      refine sv (yAsg rfl) ?_
      refine nil ?_
      exact ⟨_, rfl, rfl, rfl, rfl, rfl, rfl, rfl.trans (by unfold manyA; (repeat' split) <;> first | rfl | (exfalso; omega)), hS, trivial⟩
    ·
      simp only [Bool.and_eq_true, Bool.or_eq_true, Bool.and_eq_false_iff, Bool.or_eq_false_iff, decide_eq_true_eq, decide_eq_false_iff_not, Bool.not_eq_true, Bool.not_eq_false, Bool.not_not, Bool.not_eq_eq_eq_not, Bool.not_true, Bool.not_false, Bool.false_eq_true, Bool.true_eq_false, ne_eq, Decidable.not_not, not_false_eq_true, not_true_eq_false] at c15
      refine seq ?_
      refine seq ?_
      refine region ?_
      refine sv (yEql rfl rfl) ?_
      refine sv (yAsg rfl) ?_
      refine nil ?_
      show Code.wp _ _ _ _ _
      refine cond rfl (fun c20 => ?_) (fun c20 => ?_)
      ·
        simp only [Bool.and_eq_true, Bool.or_eq_true, Bool.and_eq_false_iff, Bool.or_eq_false_iff, decide_eq_true_eq, decide_eq_false_iff_not, Bool.not_eq_true, Bool.not_eq_false, Bool.not_not, Bool.not_eq_eq_eq_not, Bool.not_true, Bool.not_false, Bool.false_eq_true, Bool.true_eq_false, ne_eq, Decidable.not_not, not_false_eq_true, not_true_eq_false] at c20
        refine skip ?_
        show Code.wp _ _ _ _ _
        refine cond rfl (fun c20 => ?_) (fun c20 => ?_)
        ·
          simp only [Bool.and_eq_true, Bool.or_eq_true, Bool.and_eq_false_iff, Bool.or_eq_false_iff, decide_eq_true_eq, decide_eq_false_iff_not, Bool.not_eq_true, Bool.not_eq_false, Bool.not_not, Bool.not_eq_eq_eq_not, Bool.not_true, Bool.not_false, Bool.false_eq_true, Bool.true_eq_false, ne_eq, Decidable.not_not, not_false_eq_true, not_true_eq_false] at c20
          refine region ?_
          refine sv (yMove rfl) ?_
          refine sv (yAsg rfl) ?_
          refine nil ?_
          exact ⟨_, rfl, rfl, rfl, rfl, rfl, rfl, rfl.trans (by unfold manyA; (repeat' split) <;> first | rfl | (exfalso; omega)), hS, trivial⟩
        ·
          simp only [Bool.and_eq_true, Bool.or_eq_true, Bool.and_eq_false_iff, Bool.or_eq_false_iff, decide_eq_true_eq, decide_eq_false_iff_not, Bool.not_eq_true, Bool.not_eq_false, Bool.not_not, Bool.not_eq_eq_eq_not, Bool.not_true, Bool.not_false, Bool.false_eq_true, Bool.true_eq_false, ne_eq, Decidable.not_not, not_false_eq_true, not_true_eq_false] at c20
          refine skip ?_
          exact ⟨_, rfl, rfl, rfl, rfl, rfl, rfl, rfl.trans (by unfold manyA; (repeat' split) <;> first | rfl | (exfalso; omega)), hS, trivial⟩
      ·
        simp only [Bool.and_eq_true, Bool.or_eq_true, Bool.and_eq_false_iff, Bool.or_eq_false_iff, decide_eq_true_eq, decide_eq_false_iff_not, Bool.not_eq_true, Bool.not_eq_false, Bool.not_not, Bool.not_eq_eq_eq_not, Bool.not_true, Bool.not_false, Bool.false_eq_true, Bool.true_eq_false, ne_eq, Decidable.not_not, not_false_eq_true, not_true_eq_false] at c20
        refine region ?_
        refine sv (yEql rfl rfl) ?_
        refine sv (yAsg rfl) ?_
        refine nil ?_
        show Code.wp _ _ _ _ _
        refine cond rfl (fun c20 => ?_) (fun c20 => ?_)
        ·
          simp only [Bool.and_eq_true, Bool.or_eq_true, Bool.and_eq_false_iff, Bool.or_eq_false_iff, decide_eq_true_eq, decide_eq_false_iff_not, Bool.not_eq_true, Bool.not_eq_false, Bool.not_not, Bool.not_eq_eq_eq_not, Bool.not_true, Bool.not_false, Bool.false_eq_true, Bool.true_eq_false, ne_eq, Decidable.not_not, not_false_eq_true, not_true_eq_false] at c20
          refine region ?_
          refine sv (yMove rfl) ?_
          refine sv (yAsg rfl) ?_
          refine nil ?_
          exact ⟨_, rfl, rfl, rfl, rfl, rfl, rfl, rfl.trans (by unfold manyA; (repeat' split) <;> first | rfl | (exfalso; omega)), hS, trivial⟩
        ·
          simp only [Bool.and_eq_true, Bool.or_eq_true, Bool.and_eq_false_iff, Bool.or_eq_false_iff, decide_eq_true_eq, decide_eq_false_iff_not, Bool.not_eq_true, Bool.not_eq_false, Bool.not_not, Bool.not_eq_eq_eq_not, Bool.not_true, Bool.not_false, Bool.false_eq_true, Bool.true_eq_false, ne_eq, Decidable.not_not, not_false_eq_true, not_true_eq_false] at c20
          refine skip ?_
          exact ⟨_, rfl, rfl, rfl, rfl, rfl, rfl, rfl.trans (by unfold manyA; (repeat' split) <;> first | rfl | (exfalso; omega)), hS, trivial⟩
  ·
    clear hS; rintro f w ⟨h1, h3, h5, h6, h7, h8, hS, -⟩
    refine seq ?_
    refine region ?_
    refine sv (fa86_2 h5) ?_
    refine sv (yLdB rfl Tryz.isAgg3 (hS.at _) rfl) ?_
    refine sv (yEql rfl rfl) ?_
    refine sv (yAsg rfl) ?_
    refine nil ?_
    show Code.wp _ _ _ _ _
    refine seq ?_
    refine block ?_
    refine seq ?_
    refine region ?_
    refine sv (fa86_0 h5) ?_
    refine sv (yLdB rfl Tryz.isAgg3 (hS.at _) rfl) ?_
    refine scall Tryz.call25 (.cons rfl .nil) c_never ?_
    rintro _ w ⟨rfl, hE⟩; replace hS := hS.step hE; clear hE
    refine sv (yAsg rfl) ?_
    refine nil ?_
    show Code.wp _ _ _ _ _
    refine cond rfl (fun c27 => ?_) (fun c27 => ?_)
    ·
      refine seq ?_
      refine region ?_
      refine sv (yAsg rfl) ?_
      refine nil ?_
      show Code.wp _ _ _ _ _
      refine wp_ret (blockR (thenR ?_))
      exact retV (res1 rfl (eqI (by unfold actE; rw [if_pos (show neverB x.tm = true from c27)]))) hS.ext
    ·
      refine seq ?_
      refine region ?_
      refine sv (yMove h7) ?_
      refine sv (fa86_1 h5) ?_
      refine sv (yLdB rfl Tryz.isAgg3 (hS.at _) rfl) ?_
      refine sv (fa26_0 h3) ?_
      refine sv (yLdB rfl Tryz.isAgg22 (hS.at _) rfl) ?_
      refine sv (yLen rfl Tryz.underlying22) ?_
      refine scallf rfl Tryz.call60 (.cons rfl (.cons rfl .nil)) (c_act1 ⟨by omega, by omega⟩) ?_
      rintro _ w ⟨rfl, hE⟩; replace hS := hS.step hE; clear hE
      refine sv (yAsg rfl) ?_
      refine nil ?_
      show Code.wp _ _ _ _ _
      refine cond rfl (fun c31 => ?_) (fun c31 => ?_)
      ·
        refine seq ?_
        refine region ?_
        refine sv (yAsg rfl) ?_
        refine nil ?_
        show Code.wp _ _ _ _ _
        refine wp_ret (blockR (thenR ?_))
        exact retV (res1 rfl (eqI (by unfold actE; rw [if_neg (by rw [show neverB x.tm = false from c27]; decide), if_pos (show outB x.who 0 ((c.ops.length : Int) - 1) = true from c31)]))) hS.ext
      ·
        refine seq ?_
        refine region ?_
        refine sv (fa86_2 h5) ?_
        refine sv (yLdB rfl Tryz.isAgg3 (hS.at _) rfl) ?_
        refine scall Tryz.call45 (.cons rfl (.cons rfl (.cons rfl .nil))) c_out ?_
        rintro _ w ⟨rfl, hE⟩; replace hS := hS.step hE; clear hE
        refine sv (yMove rfl) ?_
        refine sg rfl rfl rfl (fun g => (yMove rfl)) (fun v44 g44 => ?_)
        refine sg rfl rfl rfl (fun g => (yNot (g44.1 g))) (fun v45 g45 => ?_)
        refine sg rfl rfl rfl (fun g => (yMove (g45.1 g))) (fun v46 g46 => ?_)
        refine sgg rfl rfl g46 (fun g => (fa86_4 h5)) (fun v47 g47 => ?_)
        refine sgg rfl rfl g46 (fun g => (yLdB (g47.1 g) Tryz.isAgg3 (hS.at _) rfl)) (fun v48 g48 => ?_)
        refine sgg rfl rfl g46 (fun g => (yNeq (g48.1 g) rfl)) (fun v49 g49 => ?_)
        refine sg rfl rfl rfl (fun g => (yAnd (g46.1 g) (fun hB => (g49.1 ⟨g, hB⟩)) rfl)) (fun v50 g50 => ?_)
        refine sv (yOr rfl rfl (fun hB => (g50.1 hB))) ?_
        refine sv (yMove rfl) ?_
        refine sg rfl rfl rfl (fun g => (fa86_2 h5)) (fun v53 g53 => ?_)
        refine sg rfl rfl rfl (fun g => (yLdB (g53.1 g) Tryz.isAgg3 (hS.at _) rfl)) (fun v54 g54 => ?_)
        refine sg rfl rfl rfl (fun g => (yNeq (g54.1 g) rfl)) (fun v55 g55 => ?_)
        refine sg rfl rfl rfl (fun g => (yMove (g55.1 g))) (fun v56 g56 => ?_)
        refine sgg rfl rfl g56 (fun g => (fa86_5 h5)) (fun v57 g57 => ?_)
        refine sgg rfl rfl g56 (fun g => (yLdB (g57.1 g) Tryz.isAgg3 (hS.at _) rfl)) (fun v58 g58 => ?_)
        refine sgg rfl rfl g56 (fun g => (yNeq (g58.1 g) rfl)) (fun v59 g59 => ?_)
        refine sg rfl rfl rfl (fun g => (yAnd (g56.1 g) (fun hB => (g59.1 ⟨g, hB⟩)) rfl)) (fun v60 g60 => ?_)
        refine sv (yOr rfl rfl (fun hB => (g60.1 hB))) ?_
        refine sv (yAsg rfl) ?_
        refine nil ?_
        show Code.wp _ _ _ _ _
        refine cond rfl (fun c39 => ?_) (fun c39 => ?_)
        ·
          refine seq ?_
          refine region ?_
          refine sv (yAsg rfl) ?_
          refine nil ?_
          show Code.wp _ _ _ _ _
          refine wp_ret (blockR (thenR ?_))
          exact retV (res1 rfl (eqI (by unfold actE; rw [if_neg (by rw [show neverB x.tm = false from c27]; decide), if_neg (by rw [show outB x.who 0 ((c.ops.length : Int) - 1) = false from c31]; decide), if_pos (show argA x = true from c39)]))) hS.ext
        ·
          refine seq ?_
          refine region ?_
          refine sv (yMove h7) ?_
          refine sv (fa86_3 h5) ?_
          refine sv (yLdB rfl Tryz.isAgg3 (hS.at _) rfl) ?_
          refine sv (yMove h8) ?_
          refine scallf rfl Tryz.call60 (.cons rfl (.cons rfl .nil)) (c_act1 hmany) ?_
          rintro _ w ⟨rfl, hE⟩; replace hS := hS.step hE; clear hE
          refine sv (yMove rfl) ?_
          refine sg rfl rfl rfl (fun g => (yMove h7)) (fun v69 g69 => ?_)
          refine sg rfl rfl rfl (fun g => (fa86_4 h5)) (fun v70 g70 => ?_)
          refine sg rfl rfl rfl (fun g => (yLdB (g70.1 g) Tryz.isAgg3 (hS.at _) rfl)) (fun v71 g71 => ?_)
          refine sg rfl rfl rfl (fun g => (fa26_0 h3)) (fun v72 g72 => ?_)
          refine sg rfl rfl rfl (fun g => (yLdB (g72.1 g) Tryz.isAgg22 (hS.at _) rfl)) (fun v73 g73 => ?_)
          refine sg rfl rfl rfl (fun g => (yLen (g73.1 g) Tryz.underlying22)) (fun v74 g74 => ?_)
          refine sgcf hS rfl rfl rfl (fun g => (g69.1 g)) Tryz.call60 (fun g => (.cons (g71.1 g) (.cons (g74.1 g) .nil))) (fun g => (c_act1 ⟨by omega, by omega⟩)) ?_; clear hS; intro v75 w hS g75
          refine sv (yOr rfl rfl (fun hB => (g75.1 hB))) ?_
          refine sv (yAsg rfl) ?_
          refine nil ?_
          show Code.wp _ _ _ _ _
          refine cond rfl (fun c62 => ?_) (fun c62 => ?_)
          ·
            refine seq ?_
            refine cutC (.cons (us rfl (us rfl (us rfl (us rfl (us rfl (us rfl (us rfl (us rfl (us rfl (us rfl (us rfl (us rfl (us rfl (us rfl (us rfl (us rfl (us rfl (us rfl (us rfl (us rfl (us rfl (us rfl (us rfl (us rfl (us rfl (us rfl (us rfl (us rfl (us rfl (us rfl (us rfl (us rfl (us rfl (us rfl (us rfl (us rfl (us rfl (us rfl (us rfl (us rfl (us rfl (us rfl (us rfl (us rfl (us rfl (us rfl (us rfl (us rfl (us rfl (us rfl (us rfl (us rfl (us rfl (us rfl h6)))))))))))))))))))))))))))))))))))))))))))))))))))))) .nil) ?_
            rintro f ⟨h6, -⟩
            refine region ?_
            refine sv (yAsg rfl) ?_
            refine nil ?_
            show Code.wp _ _ _ _ _
            refine wp_ret (blockR (thenR ?_))
            exact retV (res1 rfl (eqI (by unfold actE; rw [if_neg (by rw [show neverB x.tm = false from c27]; decide), if_neg (by rw [show outB x.who 0 ((c.ops.length : Int) - 1) = false from c31]; decide), if_neg (by rw [show argA x = false from c39]; decide), if_pos (show noneA c i x = true from c62)]))) hS.ext
          ·
            refine seq ?_
            refine cutC (.cons (us rfl (us rfl (us rfl (us rfl (us rfl (us rfl (us rfl (us rfl (us rfl (us rfl (us rfl (us rfl (us rfl (us rfl (us rfl (us rfl (us rfl (us rfl (us rfl (us rfl (us rfl (us rfl (us rfl (us rfl (us rfl (us rfl (us rfl (us rfl (us rfl (us rfl (us rfl (us rfl (us rfl (us rfl (us rfl (us rfl (us rfl (us rfl (us rfl (us rfl (us rfl (us rfl (us rfl (us rfl (us rfl (us rfl (us rfl (us rfl (us rfl (us rfl (us rfl (us rfl (us rfl (us rfl h5)))))))))))))))))))))))))))))))))))))))))))))))))))))) (.cons (us rfl (us rfl (us rfl (us rfl (us rfl (us rfl (us rfl (us rfl (us rfl (us rfl (us rfl (us rfl (us rfl (us rfl (us rfl (us rfl (us rfl (us rfl (us rfl (us rfl (us rfl (us rfl (us rfl (us rfl (us rfl (us rfl (us rfl (us rfl (us rfl (us rfl (us rfl (us rfl (us rfl (us rfl (us rfl (us rfl (us rfl (us rfl (us rfl (us rfl (us rfl (us rfl (us rfl (us rfl (us rfl (us rfl (us rfl (us rfl (us rfl (us rfl (us rfl (us rfl (us rfl (us rfl h6)))))))))))))))))))))))))))))))))))))))))))))))))))))) (.cons (us rfl (us rfl (us rfl (us rfl (us rfl (us rfl (us rfl (us rfl (us rfl (us rfl (us rfl (us rfl (us rfl (us rfl (us rfl (us rfl (us rfl (us rfl (us rfl (us rfl (us rfl (us rfl (us rfl (us rfl (us rfl (us rfl (us rfl (us rfl (us rfl (us rfl (us rfl (us rfl (us rfl (us rfl (us rfl (us rfl (us rfl (us rfl (us rfl (us rfl (us rfl (us rfl (us rfl (us rfl (us rfl (us rfl (us rfl (us rfl (us rfl (us rfl uh)))))))))))))))))))))))))))))))))))))))))))))))))) .nil))) ?_
            rintro f ⟨h5, h6, h9, -⟩
            refine region ?_
            refine sv (yMove h9) ?_
            refine sv (yMove rfl) ?_
            refine sg rfl rfl rfl (fun g => (fa86_4 h5)) (fun v80 g80 => ?_)
            refine sg rfl rfl rfl (fun g => (yLdB (g80.1 g) Tryz.isAgg3 (hS.at _) rfl)) (fun v81 g81 => ?_)
            refine sg rfl rfl rfl (fun g => (fa86_1 h5)) (fun v82 g82 => ?_)
            refine sg rfl rfl rfl (fun g => (yLdB (g82.1 g) Tryz.isAgg3 (hS.at _) rfl)) (fun v83 g83 => ?_)
            refine sg rfl rfl rfl (fun g => (yEql (g81.1 g) (g83.1 g))) (fun v84 g84 => ?_)
            refine sv (yAnd rfl (fun hB => (g84.1 hB)) rfl) ?_
            refine sv (yAsg rfl) ?_
            refine nil ?_
            show Code.wp _ _ _ _ _
            refine cond rfl (fun c77 => ?_) (fun c77 => ?_)
            ·
              refine seq ?_
              refine region ?_
              refine sv (yAsg rfl) ?_
              refine nil ?_
              show Code.wp _ _ _ _ _
              refine wp_ret (blockR (thenR ?_))
              exact retV (res1 rfl (eqI (by unfold actE; rw [if_neg (by rw [show neverB x.tm = false from c27]; decide), if_neg (by rw [show outB x.who 0 ((c.ops.length : Int) - 1) = false from c31]; decide), if_neg (by rw [show argA x = false from c39]; decide), if_neg (by rw [show noneA c i x = false from c62]; decide), if_pos (show (decide (x.dw = 2) && decide (x.to = x.who)) = true from c77)]))) hS.ext
            ·
              refine seq ?_
              refine region ?_
              refine sv (fa86_5 h5) ?_
              refine sv (yLdB rfl Tryz.isAgg3 (hS.at _) rfl) ?_
              refine scall Tryz.call45 (.cons rfl (.cons rfl (.cons rfl .nil))) c_out ?_
              rintro _ w ⟨rfl, hE⟩; replace hS := hS.step hE; clear hE
              refine sv (yAsg rfl) ?_
              refine nil ?_
              show Code.wp _ _ _ _ _
              refine cond rfl (fun c86 => ?_) (fun c86 => ?_)
              ·
                refine seq ?_
                refine region ?_
                refine sv (yAsg rfl) ?_
                refine nil ?_
                show Code.wp _ _ _ _ _
                refine wp_ret (blockR (thenR ?_))
                exact retV (res1 rfl (eqI (by unfold actE; rw [if_neg (by rw [show neverB x.tm = false from c27]; decide), if_neg (by rw [show outB x.who 0 ((c.ops.length : Int) - 1) = false from c31]; decide), if_neg (by rw [show argA x = false from c39]; decide), if_neg (by rw [show noneA c i x = false from c62]; decide), if_neg (by rw [show (decide (x.dw = 2) && decide (x.to = x.who)) = false from c77]; decide), if_pos (show outB x.subj 0 1000 = true from c86)]))) hS.ext
              ·
                refine skip ?_
                show Code.wp _ _ _ _ _
                refine seq ?_
                refine region ?_
                refine sv (yAsg rfl) ?_
                refine nil ?_
                show Code.wp _ _ _ _ _
                refine wp_ret ?_
                exact retV (res1 rfl (eqI (by unfold actE; rw [if_neg (by rw [show neverB x.tm = false from c27]; decide), if_neg (by rw [show outB x.who 0 ((c.ops.length : Int) - 1) = false from c31]; decide), if_neg (by rw [show argA x = false from c39]; decide), if_neg (by rw [show noneA c i x = false from c62]; decide), if_neg (by rw [show (decide (x.dw = 2) && decide (x.to = x.who)) = false from c77]; decide), if_neg (by rw [show outB x.subj 0 1000 = false from c86]; decide)]))) hS.ext
end Go.Proofs.YtghgnofilbnbaaaGreat

