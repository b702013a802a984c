/- Merged texts, part 3. -/
import Derived.Test.YtgidbailiababaaGreatDoorQ2
set_option linter.all false
/- part Sk1 -/
namespace Bx
open Go Go.RowKit
theorem cwQ {P : Program} {c : Code} {Q : Exit → Act → World → Prop} {a : Act} {w : World} (h : c.wp P Q a w) : c.wp P Q a w := h
theorem lrQ {α : Type} {l : List α} : l.Sublist l := .refl _
theorem lnQ {α : Type} {l : List α} : [].Sublist l := List.nil_sublist _
theorem lcQ {α : Type} {x : α} {a b : List α} (h : a.Sublist b) : (x :: a).Sublist (x :: b) := .cons_cons _ h
theorem ldQ {α : Type} {x : α} {a b : List α} (h : a.Sublist b) : a.Sublist (x :: b) := .cons _ h
abbrev ptQ (b : Nat) : Value := .pointer (some ⟨b, 0, none⟩)
theorem yIxQ {P : Program} {ρ : Operand → Value} {w : World} {ty : TypeId} {x i : Operand} {T e : TypeId} {a : Option Addr} {b o len cap k : Nat} {kd : IntKind} {m : Int} (hx : ρ x = .slice a len cap) (ha : a = some ⟨b, o, none⟩) (hi : ρ i = .int kd m) (hu : ∀ w, (underlying T).run P w = .ok (.slice e) w)
  (hs : ∀ w, (Go.sizeOf e).run P w = .ok k w) (h0 : 0 ≤ m := by omega) (h1 : m < len := by omega) : Y P ρ (.indexAddr T x i) ty w (.pointer (some ⟨b, o + m.toNat * k, none⟩)) w := yIxa hx ha hi hu hs h0 h1
theorem scV {P : Program} {ops : Array Oper} {Q : Exit → Act → World → Prop} {n : Nat} {rest : List Oper} {f : Fr} {w w0 : World} {S : List Nat} {L : List Item} {d : Nat} {ty : TypeId} {pos : String} {af : Array Edge} {g : FuncId} {xs : List Operand} {ts : Array TypeId} {vs : List Value} {v : Value} (hS : StX S w0 w L) (hc : ∀ ars w, (callFunc g ars).run P w = .ok (.enter g ars) w) (ha : Evs (ev n f) xs vs) (hC : CV P g vs.toArray w v)
  (h : ∀ w', StX S w0 w' L → wpL P ops Q n rest (upd f d v) w') : wpL P ops Q n (⟨some d, .call ⟨.value (.func g), xs.toArray, ts⟩, ty, pos, af, none⟩ :: rest) f w := scall hc ha hC fun _ w' ⟨e, hE⟩ => by subst e; exact h w' (hS.step hE)
theorem sbQ {S : List Nat} {w0 w : World} {L L' : List Item} (hS : StX S w0 w L) (h : L'.Sublist L := by repeat first | exact lrQ | exact lnQ | apply lcQ | apply ldQ) : StX S w0 w L' := hS.sub h
end Bx
namespace Bx
open Go Go.RowKit
theorem awQ {P : Program} {ops : Array Oper} {Q : Exit → Act → World → Prop} {C : World → Prop} {m fuel : Nat} {listed : Array Bool} {nf : Nat} {f : Fr} {w : World} (h : wpA P ops Q C m fuel listed nf f w) : wpA P ops Q C m fuel listed nf f w := h
theorem a1Q {P : Program} {ops : Array Oper} {Q : Exit → Act → World → Prop} {C : World → Prop} {m fuel : Nat} {listed : Array Bool} {nf : Nat} {f : Fr} {w : World} (i : Nat) {o : Oper} (hr : Region.ready .any ops listed = [i]) (ho : ops[i]? = some o)
  (h : wpL P ops (Exit.then (fun a' w' => (i < m → C w') ∧ wpAC P .any ops Q C m fuel (listed.setIfInBounds i true) a' w') Q) nf [o] f w) : wpA P ops Q C m (fuel + 1) listed nf f w := a_step hr ⟨⟨o, ho, h⟩, trivial⟩
theorem fsR {P : Program} {ops : Array Oper} {Q : Exit → Act → World → Prop} {C : World → Prop} {m fuel : Nat} {listed : Array Bool} {nf : Nat} {f : Fr} {w : World} {d : Nat} {op : Op} {ty : TypeId} {pos : String} {af : Array Edge} {v : Value} (k : Nat) (hi : ops[k]? = some ⟨some d, op, ty, pos, af, none⟩) (hC : C w)
  (hr : ∀ w, C w → Y P (ev nf f) op ty w v w) (h : wpA P ops Q C m fuel (listed.setIfInBounds k true) nf (upd f d v) w) (hB : goB ops m listed k = true := by kernel_rfl) (hQ : ∀ c a a' w, Q (.panic c) a w → Q (.panic c) a' w := by intro _ _ _ _ hq; first | exact False.elim hq | (obtain ⟨_, v, hv, _⟩ := hq; cases hv)) : wpA P ops Q C m (fuel + 1) listed nf f w := f_step k hB hi hQ hC hr h
theorem fsQ {P : Program} {ops : Array Oper} {Q : Exit → Act → World → Prop} {C : World → Prop} {m fuel : Nat} {listed : Array Bool} {nf : Nat} {f : Fr} {w : World} {d : Nat} {op : Op} {ty : TypeId} {pos : String} {af : Array Edge} {v : Value} (k : Nat) (hi : ops[k]? = some ⟨some d, op, ty, pos, af, none⟩)
  (hr : ∀ w, C w → Y P (ev nf f) op ty w v w) (h : wpA P ops Q C m fuel (listed.setIfInBounds k true) nf (upd f d v) w) (hC : C w := by first | exact hS | (refine StX.sub hS ?_; repeat first | exact lrQ | exact lnQ | apply lcQ | apply ldQ)) (hB : goB ops m listed k = true := by kernel_rfl) (hQ : ∀ c a a' w, Q (.panic c) a w → Q (.panic c) a' w := by intro _ _ _ _ hq; first | exact False.elim hq | (obtain ⟨_, v, hv, _⟩ := hq; cases hv)) : wpA P ops Q C m (fuel + 1) listed nf f w := f_step k hB hi hQ hC hr h
theorem kpQ {A B C : Prop} (h : B) (hC : C := by first | exact hS | (refine StX.sub hS ?_; repeat first | exact lrQ | exact lnQ | apply lcQ | apply ldQ)) : (A → C) ∧ B := ⟨fun _ => hC, h⟩
end Bx
namespace Bx
open Go Go.RowKit
abbrev scQ (t : Sgt) (cv : Value) (ag ak ae : Option Addr) (cg ck ce : Nat) : List Value := [.int .i64 t.table.mean, cv, .slice ag t.gauges.length cg, .int .i64 t.wrong, .int .i64 t.frm, .int .i64 t.ticks, .slice ak t.ctrs.length ck, .slice ae t.fcs.length ce, .int .i64 t.least, .int .i64 t.most, .int .i64 t.rate, .int .i64 t.quorum]
abbrev knQ (t : Sgt) (now : Int) (cv : Value) (ag ak ae : Option Addr) (cg ck ce : Nat) (aw : Option Addr) (cw : Nat) (ax : Option Addr) (cx : Nat) (ov : Value) : List Value := [.int .i64 t.table.mean, cv, .slice ag t.gauges.length cg, .int .i64 t.wrong, .int .i64 t.frm, .int .i64 t.ticks, .slice ak t.ctrs.length ck, .slice ae t.fcs.length ce, .int .i64 t.least, .int .i64 t.most, .int .i64 t.rate, .int .i64 t.quorum, .int .i64 now, .slice aw t.ticks.toNat cw, .slice ax t.ctrs.length cx, ov]
end Bx
namespace Go.Proofs.YtgidbailiababaaGreatDoor
open Go Bx Go.Proofs.Tryz
theorem c_out {a lo hi : Int} {w0 : World} : CV Tryz.prog 72 #[.int .i64 a, .int .i64 lo, .int .i64 hi] w0 (.bool (outB a lo hi)) := by
 refine enter func72 rfl ntmps72 rfl ?_
 have hS := St.start w0
 refine seq <| region <| sv (yAsg rfl) <| nil <| cwQ <| seq <| region <| sv (yMove rfl) <| sv (yMove rfl) ?_
 refine sv (yLss rfl rfl) <| sv (yMove rfl) ?_
 refine sg rfl rfl rfl (fun g => (yMove rfl)) (fun v11 g11 => ?_)
 refine sg rfl rfl rfl (fun g => (yMove rfl)) (fun v12 g12 => ?_)
 refine sg rfl rfl rfl (fun g => (yGtr (g11.1 g) (g12.1 g))) (fun v13 g13 => ?_)
 refine sv (yOr rfl rfl (fun hB => (g13.1 hB))) <| sv (yAsg rfl) <| nil <| cwQ <| wp_ret ?_
 exact retV (res1 rfl rfl) hS.ext
theorem c_in {a lo hi : Int} {w0 : World} : CV Tryz.prog 163 #[.int .i64 a, .int .i64 lo, .int .i64 hi] w0 (.bool (inB a lo hi)) := by
 refine enter func163 rfl ntmps163 rfl ?_
 have hS := St.start w0
 refine seq <| region <| sv (yAsg rfl) <| nil <| cwQ <| seq <| region <| sv (yMove rfl) <| sv (yMove rfl) ?_
 refine sv (yGeq rfl rfl) <| sv (yMove rfl) ?_
 refine sg rfl rfl rfl (fun g => (yMove rfl)) (fun v11 g11 => ?_)
 refine sg rfl rfl rfl (fun g => (yMove rfl)) (fun v12 g12 => ?_)
 refine sg rfl rfl rfl (fun g => (yLeq (g11.1 g) (g12.1 g))) (fun v13 g13 => ?_)
 refine sv (yAnd rfl (fun hB => (g13.1 hB)) rfl) <| sv (yAsg rfl) <| nil <| cwQ <| wp_ret ?_
 exact retV (res1 rfl rfl) hS.ext
theorem c_Name {s : ByteArray} {w0 : World} (hs : s.size ≤ 9223372036854775807) : CV Tryz.prog 102 #[.string s] w0 (.bool (isName s)) := by
 refine enter func102 rfl ntmps102 rfl ?_
 have hS := St.start w0
 refine seq <| region <| sv (yAsg rfl) <| nil <| cwQ <| seq <| seq <| region <| sv (yMove rfl) ?_
 refine sv (yLenS rfl underlying9) <| sv (yMove rfl) <| nil <| cwQ <| block <| loop (fun f w zz => ∃ (k : Nat), f 0 = .string s ∧ f 6 = .int .i64 (s.size : Int) ∧ f 7 = .int .i64 (k : Int) ∧ StX [] w0 w [] ∧ (k ≤ s.size) ∧ (∀ i, i < k → okAt s i) ∧ zz = s.size - k) _ ⟨_, rfl, 0, rfl, rfl, rfl, hS, (Nat.zero_le _), (fun i hi => absurd hi (Nat.not_lt_zero i)), rfl⟩ ?_
 clear hS
 rintro f w _ ⟨k, h0, h6, h7, hS, hk, hP, rfl⟩
 refine seq <| region <| sv (yLss h7 h6) <| nil <| cwQ <| seq ?_
 refine cond rfl (fun c8 => ?_) (fun c8 => ?_)
 ·
  simp only [BS, ne_eq] at c8
  refine skip <| cwQ <| seq <| block <| seq <| region <| sv (yMove h7) <| sv (yAsg rfl) <| nil ?_
  refine cwQ <| seq <| region <| sv (yMove h0) <| sv (yMove rfl) ?_
  refine sv (yIxS rfl rfl underlying9 (getElem?_pos s k (by omega))) ?_
  refine sv (yAsg rfl) <| nil <| cwQ <| block <| seq <| region <| sv (yMove rfl) <| sv (yLeq rfl rfl) <| sv (yMove rfl) ?_
  refine sg rfl rfl rfl (fun g => (yMove rfl)) (fun v17 g17 => ?_)
  refine sg rfl rfl rfl (fun g => (yLeq (g17.1 g) rfl)) (fun v18 g18 => ?_)
  refine sv (yAnd rfl (fun hB => (g18.1 hB)) rfl) <| sv (yAsg rfl) <| nil <| cwQ ?_
  refine cond rfl (fun c13 => ?_) (fun c13 => ?_)
  ·
   simp only [BS, ne_eq] at c13
   refine skip <| cwQ <| region <| sv (yAdd h7 rfl ⟨by omega, by omega⟩) <| sv (yMove rfl) <| nil ?_
   exact ⟨_, _, rfl, ⟨k + 1, h0, h6, rfl, hS, (by omega), (snoc hP ((okAt_of s k (by omega)).2 (by omega))), rfl⟩, by omega⟩
  ·
   simp only [BS, ne_eq] at c13
   refine seq <| region <| sv (yMove rfl) <| sv (yGtr rfl rfl) <| sv (yMove rfl) ?_
   refine sg rfl rfl rfl (fun g => (yMove rfl)) (fun v24 g24 => ?_)
   refine sg rfl rfl rfl (fun g => (yEql (g24.1 g) rfl)) (fun v25 g25 => ?_)
   refine sg rfl rfl rfl (fun g => (yMove (g25.1 g))) (fun v26 g26 => ?_)
   refine sgg rfl rfl g26 (fun g => (yMove rfl)) (fun v27 g27 => ?_)
   refine sgg rfl rfl g26 (fun g => (yLeq rfl (g27.1 g))) (fun v28 g28 => ?_)
   refine sgg rfl rfl g26 (fun g => (yMove (g28.1 g))) (fun v29 g29 => ?_)
   refine sgg rfl rfl g29 (fun g => (yMove rfl)) (fun v30 g30 => ?_)
   refine sgg rfl rfl g29 (fun g => (yLeq (g30.1 g) rfl)) (fun v31 g31 => ?_)
   refine sgg rfl rfl g26 (fun g => (yAnd (g29.1 g) (fun hB => (g31.1 ⟨g, hB⟩)) rfl)) (fun v32 g32 => ?_)
   refine sg rfl rfl rfl (fun g => (yOr (g26.1 g) rfl (fun hB => (g32.1 ⟨g, hB⟩)))) (fun v33 g33 => ?_)
   refine sv (yAnd rfl (fun hB => (g33.1 hB)) rfl) <| sv (yAsg rfl) <| nil <| cwQ ?_
   refine cond rfl (fun c20 => ?_) (fun c20 => ?_)
   ·
    simp only [BS, ne_eq] at c20
    refine skip <| cwQ <| region <| sv (yAdd h7 rfl ⟨by omega, by omega⟩) <| sv (yMove rfl) <| nil ?_
    exact ⟨_, _, rfl, ⟨k + 1, h0, h6, rfl, hS, (by omega), (snoc hP ((okAt_of s k (by omega)).2 (by omega))), rfl⟩, by omega⟩
   ·
    simp only [BS, ne_eq] at c20
    refine seq <| region <| sv (yAsg rfl) <| nil <| cwQ ?_
    refine wp_ret (blockR (blockR (thenR (thenR (blockR (thenR ?_))))))
    exact retV (res1 rfl (by rw [isName_bad s k (by omega) (fun h => by have := (okAt_of s k (by omega)).1 h; omega)]; rfl)) hS.ext
 ·
  simp only [BS, ne_eq] at c8
  refine exit <| cwQ <| seq <| region <| sv (yMove h0) <| sv (ySNe rfl rfl) <| sv (yMove rfl) ?_
  refine sg rfl rfl rfl (fun g => (yMove h0)) (fun v39 g39 => ?_)
  refine sg rfl rfl rfl (fun g => (yLenS (g39.1 g) underlying9)) (fun v40 g40 => ?_)
  refine sg rfl rfl rfl (fun g => (yLeq (g40.1 g) rfl)) (fun v41 g41 => ?_)
  refine sv (yAnd rfl (fun hB => (g41.1 hB)) rfl) <| sv (yAsg rfl) <| nil <| cwQ <| wp_ret ?_
  exact retV (res1 rfl (by rw [isName_end s (fun i hi => hP i (by omega))]; rfl)) hS.ext
theorem c_cycle {v0 v2 v3 v5 : Value} {a : Option Addr} {len cap : Nat} {d : Int} {w0 : World} (hI : I64 (d * len)) : CV Tryz.prog 153 #[.agg #[v0, .slice a len cap, v2, v3, .int .i64 d, v5]] w0 (.int .i64 (d * len)) := by
 refine enter func153 rfl ntmps153 rfl ?_
 have hS := St.start w0
 refine seq <| region ?_
 refine sbox hS rfl rfl ?_; clear hS; intro b1 w hS
 refine sv (yAsg rfl) <| nil <| cwQ <| seq <| region <| sv (fa196_4 rfl) <| sv (yLdB rfl isAgg3 (hS.at _) rfl) <| sv (fa196_1 rfl) <| sv (yLdB rfl isAgg39 (hS.at _) rfl) ?_
 refine sv (yLen rfl underlying39) <| sv (yMul rfl rfl hI) <| sv (yAsg rfl) <| nil <| cwQ <| wp_ret ?_
 exact retV (res1 rfl rfl) hS.ext
theorem c_IndexFuncInt {l : List Int} {p : Int → Bool} {v : Value} {g : Nat} {cl : List Value} {w0 : World} (hsl : Sl w0 1 RInt v l) (hcall : ∀ ys w, (callFunc g ys).run Tryz.prog w = .ok (.enter g ys) w) (hp : ∀ x cs w, x ∈ l → Ext w0 w → RInt w cs x → CV Tryz.prog g (.int .i64 x :: cl).toArray w (.bool (p x))) : CV Tryz.prog 160 #[v, .func (.func g) #[] cl.toArray] w0 (.int .i64 (idxF p l 0)) := by
 obtain ⟨a, cap, rfl, hcap, hmx, hel⟩ := hsl
 refine enter func160 rfl ntmps160 rfl ?_
 have hS := St.start w0
 refine seq <| region <| sv (yAsg rfl) <| nil <| cwQ <| seq <| seq <| region <| sv (yMove rfl) ?_
 refine sv (yLen rfl underlying39) <| sv (yMove rfl) <| nil <| cwQ <| block <| loop (fun f w zz => ∃ (k : Nat), f 0 = .slice a l.length cap ∧ f 1 = .func (.func g) #[] cl.toArray ∧ f 7 = .int .i64 (l.length : Int) ∧ f 8 = .int .i64 (k : Int) ∧ StX [] w0 w [] ∧ (k ≤ l.length) ∧ (idxF p l 0 = idxF p (l.drop k) k) ∧ zz = l.length - k) _ ⟨_, rfl, 0, rfl, rfl, rfl, rfl, hS, (Nat.zero_le _), (rfl), rfl⟩ ?_
 clear hS
 rintro f w _ ⟨k, h0, h1, h7, h8, hS, hk, hI, rfl⟩
 refine seq <| region <| sv (yLss h8 h7) <| nil <| cwQ <| seq ?_
 refine cond rfl (fun c9 => ?_) (fun c9 => ?_)
 ·
  simp only [BS, ne_eq] at c9
  refine skip <| cwQ <| seq <| block <| seq <| region <| sv (yMove h8) <| sv (yAsg rfl) <| nil ?_
  refine cwQ <| seq <| region ?_
  obtain ⟨x, hx, hd⟩ := drop_of (l := l) (k := k) (by omega)
  obtain ⟨b, o, cs, ha, hlen, hcs, hR⟩ := hel k (by omega)
  obtain rfl : x = l[k] := (List.getElem?_eq_some_iff.1 hx).2.symm
  obtain ⟨rfl, hi64⟩ := hR
  have hR : RInt w0 [.int .i64 l[k]] l[k] := ⟨rfl, hi64⟩
  refine sv (yMove h1) <| sv (yMove h0) <| sv (yMove rfl) <| sv (yIxQ rfl ha rfl runUnderlying39 sizeOf3) <| sv (yLd rfl isAgg3 (hcs.ext hS.ext).one) ?_
  refine scallf rfl hcall (.cons rfl .nil) (hp _ _ _ (List.getElem_mem _) hS.ext hR) ?_
  rintro _ w ⟨rfl, hE⟩; replace hS := hS.step hE; clear hE
  refine nil <| cwQ ?_
  refine cond rfl (fun c16 => ?_) (fun c16 => ?_)
  ·
   refine seq <| region <| sv (yMove rfl) <| sv (yAsg rfl) <| nil <| cwQ ?_
   refine wp_ret (blockR (thenR (thenR (blockR (thenR ?_)))))
   exact retV (res1 rfl (by rw [hI, hd, idxF, if_pos c16]; rfl)) hS.ext
  ·
   refine skip <| cwQ <| region <| sv (yAdd h8 rfl ⟨by omega, by omega⟩) <| sv (yMove rfl) <| nil ?_
   exact ⟨_, _, rfl, ⟨k + 1, h0, h1, h7, rfl, hS, (by omega), (by rw [hI, hd, idxF, if_neg (by simp [c16])]; rfl), rfl⟩, by omega⟩
 ·
  simp only [BS, ne_eq] at c9
  refine exit <| cwQ <| seq <| region <| sv (yAsg rfl) <| nil <| cwQ ?_
  obtain rfl : k = l.length := by omega
  refine wp_ret ?_
  exact retV (res1 rfl (by rw [hI, List.drop_length]; rfl)) hS.ext
theorem c_ContainsFuncInt {l : List Int} {p : Int → Bool} {v : Value} {g : Nat} {cl : List Value} {w0 : World} (hsl : Sl w0 1 RInt v l) (hcall : ∀ ys w, (callFunc g ys).run Tryz.prog w = .ok (.enter g ys) w) (hp : ∀ x cs w, x ∈ l → Ext w0 w → RInt w cs x → CV Tryz.prog g (.int .i64 x :: cl).toArray w (.bool (p x))) : CV Tryz.prog 108 #[v, .func (.func g) #[] cl.toArray] w0 (.bool (l.any p)) := by
 refine enter func108 rfl ntmps108 rfl ?_
 have hS := St.start w0
 refine seq <| region <| sv (yAsg rfl) <| nil <| cwQ <| seq <| region <| sv (yMove rfl) <| sv (yMove rfl) ?_
 refine scV hS call160 (.cons rfl (.cons rfl .nil)) (c_IndexFuncInt hsl hcall hp) ?_; clear hS; intro w hS
 refine sv (yGeq rfl rfl) <| sv (yAsg rfl) <| nil <| cwQ <| wp_ret ?_
 exact retV (res1 rfl (by rw [← idxF_any p l 0 (Int.le_refl 0)]; rfl)) hS.ext
theorem c_first {rs : List Rule} {b : Nat} {T : TypeId} {w0 : World} (hb : w0.heap[b]? = some (.cells (rs.flatMap rcells).toArray T (0, 0))) (hR : RulesOk Tryz.prog w0 rs) (hl : rs.length ≤ 1000) {e : Int} (he : firstE rs = e) : CV Tryz.prog 145 #[.slice (some ⟨b, 0, none⟩) rs.length rs.length] w0 (.int .i64 e) := by
 refine enter func145 rfl ntmps145 rfl ?_
 have hS := St.start w0
 refine seq <| region <| sv (yAsg rfl) <| nil <| cwQ <| seq <| seq <| region <| sv (yMove rfl) ?_
 refine sv (yLen rfl underlying224) <| sv (yMove rfl) <| nil <| cwQ <| block <| loop (fun f w zz => ∃ (k : Nat), f 5 = .slice (some ⟨b, 0, none⟩) rs.length rs.length ∧ f 6 = .int .i64 (rs.length : Int) ∧ f 7 = .int .i64 (k : Int) ∧ StX [] w0 w [] ∧ (k ≤ rs.length) ∧ (RulesOk Tryz.prog w0 (rs.drop k)) ∧ (e = firstE (rs.drop k)) ∧ zz = rs.length - k) _ ⟨_, rfl, 0, rfl, rfl, rfl, hS, (Nat.zero_le _), (hR), (he.symm), rfl⟩ ?_
 clear hS
 rintro f w _ ⟨k, h5, h6, h7, hS, hk, hR, hE, rfl⟩
 refine seq <| region <| sv (yLss h7 h6) <| nil <| cwQ <| seq ?_
 refine cond rfl (fun c8 => ?_) (fun c8 => ?_)
 ·
  simp only [BS, ne_eq] at c8
  refine skip <| cwQ <| seq <| block <| seq <| region ?_
  obtain ⟨r, hr, hd⟩ := drop_of (l := rs) (k := k) (by omega)
  rw [hd] at hR
  obtain ⟨hcall, hv, hn⟩ := hR
  refine sv (yIx h5 h7 runUnderlying224 sizeOf194 (by omega) (by omega)) <| sv (yLdA rfl isAgg194 sizeOf194 ((flat_cells rcells_len (blk_cells hb) hr).ext hS.ext) rfl) ?_
  refine salloc hS zeroValue194 rfl ?_; clear hS; intro b4 w hS
  refine sst hS rfl rfl sizeOf194 rfl rfl rfl rfl ?_; clear hS; intro w hS
  refine nil <| cwQ <| seq <| region <| sv (fa194_0 rfl) <| sv (yLdB rfl isAgg33 (hS.at _) rfl) ?_
  refine scallf rfl hcall .nil (hv _ hS.ext) ?_
  rintro _ w ⟨rfl, hE⟩; replace hS := hS.step hE; clear hE
  refine nil <| cwQ ?_
  refine cond rfl (fun c13 => ?_) (fun c13 => ?_)
  ·
   refine seq <| region <| sv (fa194_1 rfl) <| sv (yLdB rfl isAgg30 (hS.at _) rfl) <| sv (yAsg rfl) <| nil <| cwQ ?_
   refine wp_ret (blockR (thenR (thenR (blockR (thenR ?_)))))
   exact retV (res1 rfl (by rw [hE, hd, firstE, if_pos c13]; rfl)) hS.ext
  ·
   refine skip <| cwQ <| region <| sv (yAdd h7 rfl ⟨by omega, by omega⟩) <| sv (yMove rfl) <| nil ?_
   exact ⟨_, _, rfl, ⟨k + 1, h5, h6, rfl, (hS.sub (List.nil_sublist _)), (by omega), (hn c13), (by rw [hE, hd, firstE, if_neg (by simp [c13])]), rfl⟩, by omega⟩
 ·
  simp only [BS, ne_eq] at c8
  refine exit <| cwQ <| seq <| region <| sv (yAsg rfl) <| nil <| cwQ ?_
  obtain rfl : k = rs.length := by omega
  refine wp_ret ?_
  exact retV (res1 rfl (by rw [hE, List.drop_length]; rfl)) hS.ext
theorem c_Check1 {b : Nat} {T : TypeId} {m : Int} {cv : Value} {w0 : World} (hb : w0.heap[b]? = some (.cells [.int .i64 m, cv].toArray T (0, 0))) : CV Tryz.prog 146 #[ptQ b] w0 (.bool (outB m (-20000) 20000)) := by
 refine enter func146 rfl ntmps146 rfl ?_
 have hS := St.start w0
 refine seq <| region <| sv (yAsg rfl) <| nil <| cwQ <| seq <| region <| sv (fa24_0 rfl) <| sv (yLdB rfl isAgg3 (hS.ext.get hb) rfl) ?_
 refine scV hS call72 (.cons rfl (.cons rfl (.cons rfl .nil))) c_out ?_; clear hS; intro w hS
 refine sv (yAsg rfl) <| nil <| cwQ <| wp_ret ?_
 exact retV (res1 rfl rfl) hS.ext
theorem c_Check2 {b : Nat} {T : TypeId} {m : Int} {a : Option Addr} {l cap : Nat} {w0 : World} (hb : w0.heap[b]? = some (.cells [.int .i64 m, .slice a l cap].toArray T (0, 0))) : CV Tryz.prog 147 #[ptQ b] w0 (.bool (decide ((12 : Int) < l))) := by
 refine enter func147 rfl ntmps147 rfl ?_
 have hS := St.start w0
 refine seq <| region <| sv (yAsg rfl) <| nil <| cwQ <| seq <| region <| sv (fa24_1 rfl) <| sv (yLdB rfl isAgg22 (hS.ext.get hb) rfl) ?_
 refine sv (yLen rfl underlying22) <| sv (yGtr rfl rfl) <| sv (yAsg rfl) <| nil <| cwQ <| wp_ret ?_
 exact retV (res1 rfl rfl) hS.ext
theorem c_Check3 {h : Int} {w0 : World} : CV Tryz.prog 148 #[.int .i64 h] w0 (.bool (outB h (-10000) 10000)) := by
 refine enter func148 rfl ntmps148 rfl ?_
 have hS := St.start w0
 refine seq <| region <| sv (yAsg rfl) <| nil <| cwQ <| seq <| region <| sv (yMove rfl) ?_
 refine scV hS call72 (.cons rfl (.cons rfl (.cons rfl .nil))) c_out ?_; clear hS; intro w hS
 refine sv (yAsg rfl) <| nil <| cwQ <| wp_ret ?_
 exact retV (res1 rfl rfl) hS.ext
theorem c_Check4 {b : Nat} {T : TypeId} {c : Const} {a : Option Addr} {cap : Nat} {w0 : World} (hb : w0.heap[b]? = some (.cells [.string c.name, .slice a c.heights.length cap, .int .i64 c.off, .int .i64 c.step, .int .i64 c.den, .int .i64 c.slack].toArray T (0, 0))) (hs : c.name.size ≤ 9223372036854775807) : CV Tryz.prog 149 #[ptQ b] w0 (.bool (!isName c.name)) := by
 refine enter func149 rfl ntmps149 rfl ?_
 have hS := St.start w0
 refine seq <| region <| sv (yAsg rfl) <| nil <| cwQ <| seq <| region <| sv (fa196_0 rfl) <| sv (yLdB rfl isAgg9 (hS.ext.get hb) rfl) ?_
 refine scV hS call102 (.cons rfl .nil) (c_Name hs) ?_; clear hS; intro w hS
 refine sv (yNot rfl) <| sv (yAsg rfl) <| nil <| cwQ <| wp_ret ?_
 exact retV (res1 rfl rfl) hS.ext
theorem c_Check5 {b b2 bm : Nat} {T T2 : TypeId} {c : Const} {a : Option Addr} {cap : Nat} {seen : List ByteArray} {w0 : World} (hb : w0.heap[b]? = some (.cells [.string c.name, .slice a c.heights.length cap, .int .i64 c.off, .int .i64 c.step, .int .i64 c.den, .int .i64 c.slack].toArray T (0, 0))) (h2 : w0.heap[b2]? = some (.cells [.map (some bm)].toArray T2 (0, 0))) (hm : ∃ o, w0.heap[bm]? = some o ∧ MapOk Value.string (seenM seen) o) : CV Tryz.prog 150 #[ptQ b2, ptQ b] w0 (.bool (memB c.name seen)) := by
 refine enter func150 rfl ntmps150 rfl ?_
 have hS := St.start w0
 refine seq <| region <| sv (yAsg rfl) <| nil <| cwQ <| seq <| region <| sv (yLdB rfl isAgg153 (hS.ext.get h2) rfl) <| sv (fa196_0 rfl) ?_
 refine sv (yLdB rfl isAgg9 (hS.ext.get hb) rfl) ?_
 refine sv (yLook Value.string rfl rfl runUnderlying153 (keyStr underlying9) zeroValue4 (by obtain ⟨o, h1, h2⟩ := hm; exact ⟨o, hS.ext.get h1, h2⟩) (getM_seen _ _)) ?_
 refine sv (yAsg rfl) <| nil <| cwQ <| wp_ret ?_
 exact retV (res1 rfl rfl) hS.ext
theorem c_Check6 {b : Nat} {T : TypeId} {c : Const} {a : Option Addr} {cap : Nat} {w0 : World} (hb : w0.heap[b]? = some (.cells [.string c.name, .slice a c.heights.length cap, .int .i64 c.off, .int .i64 c.step, .int .i64 c.den, .int .i64 c.slack].toArray T (0, 0))) : CV Tryz.prog 151 #[ptQ b] w0 (.bool (outB c.heights.length 2 48)) := by
 refine enter func151 rfl ntmps151 rfl ?_
 have hS := St.start w0
 refine seq <| region <| sv (yAsg rfl) <| nil <| cwQ <| seq <| region <| sv (fa196_1 rfl) <| sv (yLdB rfl isAgg39 (hS.ext.get hb) rfl) ?_
 refine sv (yLen rfl underlying39) ?_
 refine scV hS call72 (.cons rfl (.cons rfl (.cons rfl .nil))) c_out ?_; clear hS; intro w hS
 refine sv (yAsg rfl) <| nil <| cwQ <| wp_ret ?_
 exact retV (res1 rfl rfl) hS.ext
theorem c_Check7 {b2 : Nat} {T2 : TypeId} {b : Nat} {T : TypeId} {c : Const} {a : Option Addr} {cap : Nat} {w0 : World} (hb : w0.heap[b]? = some (.cells [.string c.name, .slice a c.heights.length cap, .int .i64 c.off, .int .i64 c.step, .int .i64 c.den, .int .i64 c.slack].toArray T (0, 0))) (h2 : w0.heap[b2]? = some (.cells [.func (.func 148) #[] #[]].toArray T2 (0, 0))) (hl : (c.heights.length : Int) ≤ 48) (hsl : Sl w0 1 RInt (.slice a c.heights.length cap) c.heights) : CV Tryz.prog 152 #[ptQ b, ptQ b2] w0 (.bool (numsB c)) := by
 refine enter func152 rfl ntmps152 rfl ?_
 have hS := St.start w0
 refine seq <| region <| sv (yAsg rfl) <| nil <| cwQ <| seq <| region_draw mixed (by kernel_rfl) hS <| qv (fun w hS => (fa196_4 rfl)) <| qv (fun w hS => (yLdB rfl isAgg3 (hS.ext.get hb) rfl)) ?_
 refine qcall call72 (.cons rfl (.cons rfl (.cons rfl .nil))) (fun w hS => c_out) <| qv (fun w hS => (yMove rfl)) ?_
 refine qg rfl rfl rfl (fun g w hS => (fa196_3 rfl)) (fun v7 g7 => ?_)
 refine qg rfl rfl rfl (fun g w hS => (yLdB (g7.1 g) isAgg3 (hS.ext.get hb) rfl)) (fun v8 g8 => ?_)
 refine qgc rfl rfl rfl call72 (fun g => (.cons (g8.1 g) (.cons rfl (.cons rfl .nil)))) (fun g w hS => c_out) (fun v9 g9 => ?_)
 refine qv (fun w hS => (yOr rfl rfl (fun hB => (g9.1 hB)))) <| qv (fun w hS => (yMove rfl)) ?_
 refine qg rfl rfl rfl (fun g w hS => (fa196_5 rfl)) (fun v12 g12 => ?_)
 refine qg rfl rfl rfl (fun g w hS => (yLdB (g12.1 g) isAgg3 (hS.ext.get hb) rfl)) (fun v13 g13 => ?_)
 refine qgc rfl rfl rfl call72 (fun g => (.cons (g13.1 g) (.cons rfl (.cons rfl .nil)))) (fun g w hS => c_out) (fun v14 g14 => ?_)
 refine qv (fun w hS => (yOr rfl rfl (fun hB => (g14.1 hB)))) <| qv (fun w hS => (yMove rfl)) ?_
 refine qg rfl rfl rfl (fun g w hS => (fa196_2 rfl)) (fun v17 g17 => ?_)
 refine qg rfl rfl rfl (fun g w hS => (yLdB (g17.1 g) isAgg3 (hS.ext.get hb) rfl)) (fun v18 g18 => ?_)
 refine qg rfl rfl rfl (fun g w hS => (yLdBA rfl isAgg196 sizeOf196 (hS.ext.get hb) rfl rfl)) (fun v19 g19 => ?_)
 refine qgc rfl rfl rfl call153 (fun g => (.cons (g19.1 g) .nil)) (fun g w hS => (c_cycle (by have := (cyc_bd (d := c.den) (by simp only [Bool.or_eq_false_iff, outB_false] at g; omega) (by simp only [Bool.or_eq_false_iff, outB_false] at g; omega) hl); exact ⟨by omega, by omega⟩))) (fun v20 g20 => ?_)
 refine qg rfl rfl rfl (fun g w hS => (ySub (g20.1 g) rfl (by have := (cyc_bd (d := c.den) (by simp only [Bool.or_eq_false_iff, outB_false] at g; omega) (by simp only [Bool.or_eq_false_iff, outB_false] at g; omega) hl); exact ⟨by omega, by omega⟩))) (fun v21 g21 => ?_)
 refine qgc rfl rfl rfl call72 (fun g => (.cons (g18.1 g) (.cons rfl (.cons (g21.1 g) .nil)))) (fun g w hS => c_out) (fun v22 g22 => ?_)
 refine qv (fun w hS => (yOr rfl rfl (fun hB => (g22.1 hB)))) <| qv (fun w hS => (yMove rfl)) ?_
 refine qg rfl rfl rfl (fun g w hS => (fa196_1 rfl)) (fun v25 g25 => ?_)
 refine qg rfl rfl rfl (fun g w hS => (yLdB (g25.1 g) isAgg39 (hS.ext.get hb) rfl)) (fun v26 g26 => ?_)
 refine qg rfl rfl rfl (fun g w hS => (yLdB rfl isAgg135 (hS.ext.get h2) rfl)) (fun v27 g27 => ?_)
 refine qgc rfl rfl rfl call108 (fun g => (.cons (g26.1 g) (.cons (g27.1 g) .nil))) (fun g w hS => (c_ContainsFuncInt (cl := []) (hsl.ext RInt.stays hS.ext) call148 (fun x cs w _ _ _ => c_Check3))) (fun v28 g28 => ?_)
 refine qv (fun w hS => (yOr rfl rfl (fun hB => (g28.1 hB)))) <| qv (fun w hS => (yAsg rfl)) ?_
 clear hS; refine qnil (fun w hS => ?_)
 refine cwQ <| wp_ret ?_
 exact retV (res1 rfl rfl) hS.ext
set_option maxHeartbeats 1000000 in
theorem c_Check {t : Table} {cs : List Value} {w0 : World} (ht : RTable w0 cs t) : CV Tryz.prog 98 #[.agg cs.toArray] w0 (.tuple #[.int .i64 (checkT t).1, .int .i64 (checkT t).2]) := by
 obtain ⟨cv, rfl, hmean, a, cap, rfl, hcap, hmx, hel⟩ := ht
 refine enter func98 rfl ntmps98 rfl ?_
 have hS := St.start w0
 refine seq <| region ?_
 refine sbox hS rfl rfl ?_; clear hS; intro b1 w hS
 refine sv (yAsg rfl) <| sv (yAsg rfl) <| nil <| cwQ <| seq <| region <| sv (yFn (.cons rfl .nil)) <| sv (yBuild zeroValue194 rfl pl194 (.cons rfl rfl (.cons rfl rfl .nil)) rfl) <| sv (yFn (.cons rfl .nil)) ?_
 refine sv (yBuild zeroValue194 rfl pl194 (.cons rfl rfl (.cons rfl rfl .nil)) rfl) ?_
 refine sbslice hS underlying224 sizeOf194 rfl zeroValue194 rfl (.cons rfl rfl (.cons rfl rfl .nil)) rfl ?_; clear hS; intro b13 w hS
 refine scV hS call145 (.cons rfl .nil) (c_first (rs := [⟨146, [ptQ b1], 7, outB t.mean (-20000) 20000⟩, ⟨147, [ptQ b1], 3, decide ((12 : Int) < t.consts.length)⟩]) (hS.at _) ⟨call146, fun w e => c_Check1 (e.get (hS.at _)), fun _ => ⟨call147, fun w e => c_Check2 (e.get (hS.at _)), fun _ => trivial⟩⟩ (Nat.le_of_ble_eq_true rfl) (tErr_eq t _ _ _ _)) ?_; clear hS; intro w hS
 refine sv (yAsg rfl) <| nil <| cwQ <| seq <| seq <| region <| sv (yMove rfl) <| sv (yNeq rfl rfl) <| nil ?_
 refine cwQ ?_
 refine cond rfl (fun c16 => ?_) (fun c16 => ?_)
 ·
  simp only [BS, ne_eq] at c16
  refine seq <| region <| sv (yMove rfl) <| sv (yAsg rfl) <| sv (yAsg rfl) <| nil <| cwQ ?_
  refine wp_ret (thenR ?_)
  exact retV (res2 rfl (fstI (checkT_bad c16)) (sndI (checkT_bad c16))) hS.ext
 ·
  simp only [BS, ne_eq] at c16
  obtain ⟨hgood, hlen⟩ := checkT_good c16
  refine skip <| cwQ <| seq <| region ?_
  refine smkmap Value.string hS ?_; clear hS; intro b18 w hS
  refine salloc hS zeroValue153 rfl ?_; clear hS; intro b4 w hS
  refine sst hS rfl rfl sizeOf153 rfl rfl rfl rfl ?_; clear hS; intro w hS
  refine nil <| cwQ <| seq <| seq <| region <| sv (fa24_1 rfl) <| sv (yLdB rfl isAgg22 (hS.at _) rfl) <| sv (yLen rfl underlying22) <| sv (yMove rfl) ?_
  refine nil <| cwQ <| block <| loop (fun f w zz => ∃ (k : Nat), f 4 = ptQ b4 ∧ f 20 = .slice a t.consts.length cap ∧ f 21 = .int .i64 (t.consts.length : Int) ∧ f 22 = .int .i64 (k : Int) ∧ StX [] w0 w [blk b4 [.map (some b18)] 153, mapI b18 Value.string (seenM ((t.consts.take k).map (·.name)))] ∧ (k ≤ t.consts.length) ∧ (checkT t = checkL (t.consts.drop k) ((t.consts.take k).map (·.name)) k) ∧ zz = t.consts.length - k) _ ⟨_, rfl, 0, rfl, rfl, rfl, rfl, (hS.sub (.cons_cons _ (.cons_cons _ (List.nil_sublist _)))), (Nat.zero_le _), (hgood), rfl⟩ ?_
  clear hS
  rintro f w _ ⟨k, h4, h20, h21, h22, hS, hk, hI, rfl⟩
  refine seq <| region <| sv (yLss h22 h21) <| nil <| cwQ <| seq ?_
  refine cond rfl (fun c23 => ?_) (fun c23 => ?_)
  ·
   simp only [BS, ne_eq] at c23
   refine skip <| cwQ <| seq <| block <| seq <| region ?_
   obtain ⟨c, hx, hd⟩ := drop_of (l := t.consts) (k := k) (by omega)
   obtain ⟨b, o, cs, ha, hlen, hcs, hR⟩ := hel k (by omega)
   obtain rfl : c = t.consts[k] := (List.getElem?_eq_some_iff.1 hx).2.symm
   generalize t.consts[k] = c at hx hd hR
   obtain ⟨hv, rfl, hn1, hsl1, _, _, _, _⟩ := hR
   obtain ⟨a1, cap1, rfl, hq1, hq2, hq3⟩ := id hsl1
   refine sv (yMove h22) <| sv (yIxQ h20 ha h22 runUnderlying22 sizeOf196) <| sv (yLdA rfl isAgg196 sizeOf196 (hcs.ext hS.ext) rfl) ?_
   refine salloc hS zeroValue196 rfl ?_; clear hS; intro b6 w hS
   refine sv (yAsg rfl) ?_
   refine sst hS rfl rfl sizeOf196 rfl rfl rfl rfl ?_; clear hS; intro w hS
   refine nil <| cwQ <| seq <| region ?_
   refine salloc hS zeroValue135 rfl ?_; clear hS; intro b7 w hS
   refine sst hS rfl rfl sizeOf135 rfl rfl rfl rfl ?_; clear hS; intro w hS
   refine nil <| cwQ <| seq <| region <| sv (yFn (.cons rfl .nil)) <| sv (yBuild zeroValue194 rfl pl194 (.cons rfl rfl (.cons rfl rfl .nil)) rfl) <| sv (yFn (.cons h4 (.cons rfl .nil))) <| sv (yBuild zeroValue194 rfl pl194 (.cons rfl rfl (.cons rfl rfl .nil)) rfl) <| sv (yFn (.cons rfl .nil)) ?_
   refine sv (yBuild zeroValue194 rfl pl194 (.cons rfl rfl (.cons rfl rfl .nil)) rfl) <| sv (yFn (.cons rfl (.cons rfl .nil))) <| sv (yBuild zeroValue194 rfl pl194 (.cons rfl rfl (.cons rfl rfl .nil)) rfl) ?_
   refine sbslice hS underlying224 sizeOf194 rfl zeroValue194 rfl (.cons rfl rfl (.cons rfl rfl (.cons rfl rfl (.cons rfl rfl .nil)))) rfl ?_; clear hS; intro b35 w hS
   refine scV hS call145 (.cons rfl .nil) (c_first (rs := [⟨149, [ptQ b6], 6, !isName c.name⟩, ⟨150, [ptQ b4, ptQ b6], 5, memB c.name ((t.consts.take k).map (·.name))⟩, ⟨151, [ptQ b6], 3, outB c.heights.length 2 48⟩, ⟨152, [ptQ b6, ptQ b7], 7, numsB c⟩]) (hS.at _) ⟨call149, fun w e => c_Check4 (e.get (hS.at b6)) hn1, fun _ => ⟨call150, fun w e => c_Check5 (e.get (hS.at b6)) (e.get (hS.at b4)) (by obtain ⟨o, h1, h2⟩ := hS.is b18; exact ⟨o, e.get h1, h2⟩), fun _ => ⟨call151, fun w e => c_Check6 (e.get (hS.at b6)), fun h6 => ⟨call152, fun w e => c_Check7 (e.get (hS.at b6)) (e.get (hS.at b7)) (outB_false.1 h6).2 (hsl1.ext RInt.stays (hS.ext.trans e)), fun _ => trivial⟩⟩⟩⟩ (Nat.le_of_ble_eq_true rfl) (cErr_eq _ c _ _ _ _ _ _ _ _)) ?_; clear hS; intro w hS
   refine sv (yAsg rfl) <| nil <| cwQ <| seq <| seq <| region <| sv (yMove rfl) <| sv (yNeq rfl rfl) <| nil ?_
   refine cwQ ?_
   refine cond rfl (fun c38 => ?_) (fun c38 => ?_)
   ·
    simp only [BS, ne_eq] at c38
    refine seq <| region <| sv (yMove rfl) <| sv (yMove rfl) <| sv (yAsg rfl) <| sv (yAsg rfl) <| nil <| cwQ ?_
    have hfin : checkT t = ((k : Int), cErr ((t.consts.take k).map (·.name)) c) := by rw [hI, hd, checkL, if_pos c38]
    refine wp_ret (thenR (blockR (thenR (thenR (blockR (thenR ?_))))))
    exact retV (res2 rfl (fstI hfin) (sndI hfin)) hS.ext
   ·
    simp only [BS, ne_eq] at c38
    refine skip <| cwQ <| region <| sv (yLdB h4 isAgg153 (hS.at _) rfl) <| sv (fa196_0 rfl) <| sv (yLdB rfl isAgg9 (hS.at _) rfl) ?_
    refine smapset Value.string hS rfl rfl rfl runUnderlying153 (keyStr underlying9) ?_; clear hS; intro w hS
    refine nil <| cwQ <| region <| sv (yAdd h22 rfl ⟨by omega, by omega⟩) <| sv (yMove rfl) <| nil ?_
    exact ⟨_, _, rfl, ⟨k + 1, h4, h20, h21, rfl, (by rw [take_names hx, ← setM_seen _ _ (cErr_seen c38)]; exact hS.sub (.cons _ (.cons _ (.cons _ lrQ)))), (by omega), (by rw [hI, hd, checkL, if_neg (fun h => h c38), take_names hx]; rfl), rfl⟩, by omega⟩
  ·
   simp only [BS, ne_eq] at c23
   refine exit <| cwQ <| seq <| region <| sv (yAsg rfl) <| sv (yAsg rfl) <| nil <| cwQ ?_
   obtain rfl : k = t.consts.length := by omega
   have hfin : checkT t = (0, 0) := by rw [hI, List.drop_length]; rfl
   refine wp_ret ?_
   exact retV (res2 rfl (fstI hfin) (sndI hfin)) hS.ext
end Go.Proofs.YtgidbailiababaaGreatDoor

/- part Sk2 -/
namespace Go.Proofs.YtgidbailiababaaGreatDoor
open Go Bx Go.Proofs.Tryz
theorem c_tick {a : Int} {w0 : World} : CV Tryz.prog 165 #[.int .i64 a] w0 (.bool (inB a 0 200000)) := by
 refine enter func165 rfl ntmps165 rfl ?_
 have hS := St.start w0
 refine seq <| region <| sv (yAsg rfl) <| nil <| cwQ <| seq <| region <| sv (yMove rfl) ?_
 refine scV hS call163 (.cons rfl (.cons rfl (.cons rfl .nil))) c_in ?_; clear hS; intro w hS
 refine sv (yAsg rfl) <| nil <| cwQ <| wp_ret ?_
 exact retV (res1 rfl rfl) hS.ext
theorem c_rName {s : ByteArray} {w0 : World} (hs : s.size ≤ 9223372036854775807) : CV Tryz.prog 117 #[.string s] w0 (.bool (isName s)) := by
 refine enter func117 rfl ntmps117 rfl ?_
 have hS := St.start w0
 refine seq <| region <| sv (yAsg rfl) <| nil <| cwQ <| seq <| seq <| region <| sv (yMove rfl) ?_
 refine sv (yLenS rfl underlying9) ?_
 refine scV hS call163 (.cons rfl (.cons rfl (.cons rfl .nil))) c_in ?_; clear hS; intro w hS
 refine sv (yNot rfl) <| nil <| cwQ ?_
 refine cond rfl (fun c9 => ?_) (fun c9 => ?_)
 ·
  simp only [BS, ne_eq, inB] at c9
  refine seq <| region <| sv (yAsg rfl) <| nil <| cwQ ?_
  refine wp_ret (thenR ?_)
  exact retV (res1 rfl (eqB (isName_size s (by omega)))) hS.ext
 ·
  simp only [BS, ne_eq, inB] at c9
  refine skip <| cwQ <| seq <| seq <| region <| sv (yAsg rfl) <| nil <| cwQ <| block ?_
  refine loop (fun f w zz => ∃ (k : Nat), f 0 = .string s ∧ f 3 = .int .i64 (k : Int) ∧ StX [] w0 w [] ∧ (k ≤ s.size) ∧ (∀ i, i < k → okAt s i) ∧ zz = s.size - k) _ ⟨_, rfl, 0, rfl, rfl, hS, (Nat.zero_le _), (fun i hi => absurd hi (Nat.not_lt_zero i)), rfl⟩ ?_
  clear hS
  rintro f w _ ⟨k, h0, h3, hS, hk, hP, rfl⟩
  refine seq <| seq <| region <| sv (yMove h3) <| sv (yMove h0) <| sv (yLenS rfl underlying9) <| sv (yLss rfl rfl) <| nil <| cwQ ?_
  refine cond rfl (fun c13 => ?_) (fun c13 => ?_)
  ·
   simp only [BS, ne_eq] at c13
   refine skip <| cwQ <| seq <| block <| seq <| region <| sv (yMove h0) <| sv (yMove h3) ?_
   refine sv (yIxS rfl rfl underlying9 (getElem?_pos s k (by omega))) ?_
   refine sv (yAsg rfl) <| nil <| cwQ <| seq <| region <| sv (yMove rfl) <| sv (yGeq rfl rfl) <| sv (yMove rfl) ?_
   refine sg rfl rfl rfl (fun g => (yMove rfl)) (fun v22 g22 => ?_)
   refine sg rfl rfl rfl (fun g => (yLeq (g22.1 g) rfl)) (fun v23 g23 => ?_)
   refine sv (yAnd rfl (fun hB => (g23.1 hB)) rfl) <| sv (yAsg rfl) <| nil <| cwQ <| seq <| region <| sv (yMove rfl) <| sv (yNot rfl) <| sv (yMove rfl) ?_
   refine sg rfl rfl rfl (fun g => (yMove h3)) (fun v28 g28 => ?_)
   refine sg rfl rfl rfl (fun g => (yEql (g28.1 g) rfl)) (fun v29 g29 => ?_)
   refine sg rfl rfl rfl (fun g => (yMove (g29.1 g))) (fun v30 g30 => ?_)
   refine sgg rfl rfl g30 (fun g => (yMove rfl)) (fun v31 g31 => ?_)
   refine sgg rfl rfl g30 (fun g => (yNeq (g31.1 g) rfl)) (fun v32 g32 => ?_)
   refine sgg rfl rfl g30 (fun g => (yMove (g32.1 g))) (fun v33 g33 => ?_)
   refine sgg rfl rfl g33 (fun g => (yMove rfl)) (fun v34 g34 => ?_)
   refine sgg rfl rfl g33 (fun g => (yLss (g34.1 g) rfl)) (fun v35 g35 => ?_)
   refine sgg rfl rfl g33 (fun g => (yMove (g35.1 g))) (fun v36 g36 => ?_)
   refine sgg rfl rfl g36 (fun g => (yMove rfl)) (fun v37 g37 => ?_)
   refine sgg rfl rfl g36 (fun g => (yGtr (g37.1 g) rfl)) (fun v38 g38 => ?_)
   refine sgg rfl rfl g33 (fun g => (yOr (g36.1 g) rfl (fun hB => (g38.1 ⟨g, hB⟩)))) (fun v39 g39 => ?_)
   refine sgg rfl rfl g30 (fun g => (yAnd (g33.1 g) (fun hB => (g39.1 ⟨g, hB⟩)) rfl)) (fun v40 g40 => ?_)
   refine sg rfl rfl rfl (fun g => (yOr (g30.1 g) rfl (fun hB => (g40.1 ⟨g, hB⟩)))) (fun v41 g41 => ?_)
   refine sv (yAnd rfl (fun hB => (g41.1 hB)) rfl) <| nil <| cwQ ?_
   refine cond rfl (fun c42 => ?_) (fun c42 => ?_)
   ·
    simp only [BS, ne_eq] at c42
    refine seq <| region <| sv (yAsg rfl) <| nil <| cwQ ?_
    refine wp_ret (blockR (thenR (thenR (blockR (thenR ?_)))))
    exact retV (res1 rfl (eqB (isName_bad s k (by omega) (fun h => by have := (okAt_of s k (by omega)).1 h; omega)))) hS.ext
   ·
    simp only [BS, ne_eq] at c42
    refine skip <| cwQ <| region <| sv (yMove h3) <| sv (yAdd rfl rfl ⟨by omega, by omega⟩) <| sv (yAsg rfl) <| nil ?_
    exact ⟨_, _, rfl, ⟨k + 1, h0, rfl, hS, (by omega), (snoc hP ((okAt_of s k (by omega)).2 (by omega))), rfl⟩, by omega⟩
  ·
   simp only [BS, ne_eq] at c13
   refine exit <| cwQ <| seq <| region <| sv (yAsg rfl) <| nil <| cwQ <| wp_ret ?_
   exact retV (res1 rfl (eqB (isName_good s (by omega) (by omega) (fun i hi => hP i (by omega))))) hS.ext
set_option maxHeartbeats 1000000 in
theorem c_rConst {t : Table} {cs0 : List Value} {i : Nat} {c : Const} {w0 : World} (ht : RTable w0 cs0 t) (hxi : t.consts[i]? = some c) : CV Tryz.prog 164 #[.agg cs0.toArray, .int .i64 (i : Int)] w0 (.int .i64 (cErr ((t.consts.take i).map (·.name)) c)) := by
 obtain ⟨cv, rfl, hmean, a, cap, rfl, hcap, hmx, hel⟩ := ht
 obtain ⟨hi, hci⟩ := List.getElem?_eq_some_iff.1 hxi
 obtain ⟨b, o, cs, ha, hlen, hcs, hR⟩ := hel i hi
 rw [hci] at hR
 obtain ⟨hv, rfl, hn1, hsl1, _, _, _, _⟩ := hR
 obtain ⟨a1, cap1, rfl, hq1, hq2, hq3⟩ := id hsl1
 refine enter func164 rfl ntmps164 rfl ?_
 have hS := St.start w0
 refine seq <| region ?_
 refine sbox hS rfl rfl ?_; clear hS; intro b2 w hS
 refine sv (yAsg rfl) <| nil <| cwQ <| seq <| region <| sv (fa24_1 rfl) <| sv (yLdB rfl isAgg22 (hS.at _) rfl) <| sv (yMove rfl) <| sv (yIxQ rfl ha rfl runUnderlying22 sizeOf196) ?_
 refine sv (yLdA rfl isAgg196 sizeOf196 (hcs.ext hS.ext) rfl) ?_
 refine salloc hS zeroValue196 rfl ?_; clear hS; intro b5 w hS
 refine sst hS rfl rfl sizeOf196 rfl rfl rfl rfl ?_; clear hS; intro w hS
 refine nil <| cwQ <| seq <| seq <| region <| sv (fa196_0 rfl) <| sv (yLdB rfl isAgg9 (hS.at _) rfl) ?_
 refine scV hS call117 (.cons rfl .nil) (c_rName hn1) ?_; clear hS; intro w hS
 refine sv (yNot rfl) <| nil <| cwQ ?_
 refine cond rfl (fun c17 => ?_) (fun c17 => ?_)
 ·
  simp only [BS, ne_eq] at c17
  refine seq <| region <| sv (yAsg rfl) <| nil <| cwQ ?_
  refine wp_ret (thenR ?_)
  exact retV (res1 rfl (eqI (cErr6 c17))) hS.ext
 ·
  simp only [BS, ne_eq] at c17
  refine skip <| cwQ <| seq <| seq <| region <| sv (yAsg rfl) <| nil <| cwQ <| block ?_
  refine loop (fun f w zz => ∃ (k : Nat), f 1 = .int .i64 (i : Int) ∧ f 2 = ptQ b2 ∧ f 5 = ptQ b5 ∧ f 6 = .int .i64 (k : Int) ∧ StX [] w0 w [blk b5 [.string c.name, .slice a1 c.heights.length cap1, .int .i64 c.off, .int .i64 c.step, .int .i64 c.den, .int .i64 c.slack] 196, blk b2 [.int .i64 t.mean, .slice a t.consts.length cap] 24] ∧ (k ≤ i) ∧ (memB c.name ((t.consts.take k).map (·.name)) = false) ∧ zz = i - k) _ ⟨_, rfl, 0, rfl, rfl, rfl, rfl, hS, (Nat.zero_le _), (rfl), rfl⟩ ?_
  clear hS
  rintro f w _ ⟨k, h1, h2, h5, h6, hS, hk, hM, rfl⟩
  refine seq <| seq <| region <| sv (yMove h6) <| sv (yMove h1) <| sv (yLss rfl rfl) <| nil <| cwQ ?_
  refine cond rfl (fun c20 => ?_) (fun c20 => ?_)
  ·
   simp only [BS, ne_eq] at c20
   obtain ⟨d, hy, hyd⟩ := drop_of (l := t.consts) (k := k) (by omega)
   obtain ⟨b2', o2, cs2, ha2, hlen2, hcs2, hR2⟩ := hel k (by omega)
   obtain rfl : d = t.consts[k] := (List.getElem?_eq_some_iff.1 hy).2.symm
   generalize t.consts[k] = d at hy hyd hR2
   obtain ⟨hv2, rfl, _⟩ := hR2
   refine skip <| cwQ <| seq <| block <| seq <| region_draw mixed (by kernel_rfl) hS <| qv (fun w hS => (fa24_1 h2)) <| qv (fun w hS => (yLdB rfl isAgg22 (hS.at _) rfl)) <| qv (fun w hS => (yMove h6)) ?_
   refine qv (fun w hS => (yIxQ rfl ha2 rfl runUnderlying22 sizeOf196)) <| qv (fun w hS => (fa196_0 rfl)) <| qv (fun w hS => (yLd rfl isAgg9 ((hcs2.ext hS.ext).at (j := 0) rfl))) <| qv (fun w hS => (fa196_0 h5)) <| qv (fun w hS => (yLdB rfl isAgg9 (hS.at _) rfl)) <| qv (fun w hS => (ySEq rfl rfl)) ?_
   clear hS; refine qnil (fun w hS => ?_)
   refine cwQ ?_
   refine cond rfl (fun c31 => ?_) (fun c31 => ?_)
   ·
    simp only [BS, ne_eq] at c31
    refine seq <| region <| sv (yAsg rfl) <| nil <| cwQ ?_
    refine wp_ret (blockR (thenR (thenR (blockR (thenR ?_)))))
    exact retV (res1 rfl (eqI (cErr5 c17 (mem_take hy (by omega) c31)))) hS.ext
   ·
    simp only [BS, ne_eq] at c31
    refine skip <| cwQ <| region <| sv (yMove h6) <| sv (yAdd rfl rfl ⟨by omega, by omega⟩) <| sv (yAsg rfl) <| nil ?_
    exact ⟨_, _, rfl, ⟨k + 1, h1, h2, h5, rfl, hS, (by omega), (by rw [take_names hy, memB_snoc, hM, decide_eq_false (fun h => c31 h.symm)]; rfl), rfl⟩, by omega⟩
  ·
   simp only [BS, ne_eq] at c20
   obtain rfl : k = i := by omega
   refine exit <| cwQ <| seq <| seq <| region <| sv (fa196_1 h5) <| sv (yLdB rfl isAgg39 (hS.at _) rfl) <| sv (yLen rfl underlying39) ?_
   refine scV hS call163 (.cons rfl (.cons rfl (.cons rfl .nil))) c_in ?_; clear hS; intro w hS
   refine sv (yNot rfl) <| nil <| cwQ ?_
   refine cond rfl (fun c36 => ?_) (fun c36 => ?_)
   ·
    simp only [BS, ne_eq, inB] at c36
    refine seq <| region <| sv (yAsg rfl) <| nil <| cwQ ?_
    refine wp_ret (thenR ?_)
    exact retV (res1 rfl (eqI (cErr3 c17 hM (by omega)))) hS.ext
   ·
    simp only [BS, ne_eq, inB] at c36
    refine skip <| cwQ <| seq <| region <| sv (fa196_4 h5) <| sv (yLdB rfl isAgg3 (hS.at _) rfl) ?_
    refine scV hS call163 (.cons rfl (.cons rfl (.cons rfl .nil))) c_in ?_; clear hS; intro w hS
    refine sv (yMove rfl) ?_
    refine sg rfl rfl rfl (fun g => (fa196_3 h5)) (fun v41 g41 => ?_)
    refine sg rfl rfl rfl (fun g => (yLdB (g41.1 g) isAgg3 (hS.at _) rfl)) (fun v42 g42 => ?_)
    refine sgc hS rfl rfl rfl call163 (fun g => (.cons (g42.1 g) (.cons rfl (.cons rfl .nil)))) (fun g => c_in) ?_; clear hS; intro v43 w hS g43
    refine sv (yAnd rfl (fun hB => (g43.1 hB)) rfl) <| sv (yMove rfl) ?_
    refine sg rfl rfl rfl (fun g => (fa196_5 h5)) (fun v46 g46 => ?_)
    refine sg rfl rfl rfl (fun g => (yLdB (g46.1 g) isAgg3 (hS.at _) rfl)) (fun v47 g47 => ?_)
    refine sgc hS rfl rfl rfl call163 (fun g => (.cons (g47.1 g) (.cons rfl (.cons rfl .nil)))) (fun g => c_in) ?_; clear hS; intro v48 w hS g48
    refine sv (yAnd rfl (fun hB => (g48.1 hB)) rfl) <| sv (yAsg rfl) <| nil <| cwQ <| seq <| seq <| region <| sv (yAsg rfl) <| nil ?_
    refine cwQ <| block ?_
    refine loop (fun f w zz => ∃ (k : Nat) (G : Bool), f 5 = ptQ b5 ∧ f 7 = .bool G ∧ f 8 = .int .i64 (k : Int) ∧ StX [] w0 w [blk b5 [.string c.name, .slice a1 c.heights.length cap1, .int .i64 c.off, .int .i64 c.step, .int .i64 c.den, .int .i64 c.slack] 196, blk b2 [.int .i64 t.mean, .slice a t.consts.length cap] 24] ∧ (k ≤ c.heights.length) ∧ (G = (baseB c && heightsB (c.heights.take k))) ∧ zz = c.heights.length - k) _ ⟨_, rfl, 0, _, h5, rfl, rfl, hS, (Nat.zero_le _), (by rw [List.take_zero]; exact (Bool.and_true _).symm), rfl⟩ ?_
    clear hS
    rintro f w _ ⟨k, G, h5, h7, h8, hS, hk, hG, rfl⟩
    refine seq <| seq <| region <| sv (yMove h8) <| sv (fa196_1 h5) <| sv (yLdB rfl isAgg39 (hS.at _) rfl) <| sv (yLen rfl underlying39) <| sv (yLss rfl rfl) <| nil ?_
    refine cwQ ?_
    refine cond rfl (fun c54 => ?_) (fun c54 => ?_)
    ·
     simp only [BS, ne_eq] at c54
     obtain ⟨z, hz, hzd⟩ := drop_of (l := c.heights) (k := k) (by omega)
     obtain ⟨b3, o3, cs3, ha3, hlen3, hcs3, hR3⟩ := hq3 k (by omega)
     obtain rfl : z = c.heights[k] := (List.getElem?_eq_some_iff.1 hz).2.symm
     obtain ⟨rfl, hz64⟩ := hR3
     refine skip <| cwQ <| seq <| block <| region <| sv (yMove h7) <| sv (yMove rfl) ?_
     refine sg rfl rfl rfl (fun g => (fa196_1 h5)) (fun v59 g59 => ?_)
     refine sg rfl rfl rfl (fun g => (yLdB (g59.1 g) isAgg39 (hS.at _) rfl)) (fun v60 g60 => ?_)
     refine sg rfl rfl rfl (fun g => (yMove h8)) (fun v61 g61 => ?_)
     refine sg rfl rfl rfl (fun g => (yIxQ (g60.1 g) ha3 (g61.1 g) runUnderlying39 sizeOf3)) (fun v62 g62 => ?_)
     refine sg rfl rfl rfl (fun g => (yLd (g62.1 g) isAgg3 (hcs3.ext hS.ext).one)) (fun v63 g63 => ?_)
     refine sgc hS rfl rfl rfl call163 (fun g => (.cons (g63.1 g) (.cons rfl (.cons rfl .nil)))) (fun g => c_in) ?_; clear hS; intro v64 w hS g64
     refine sv (yAnd rfl (fun hB => (g64.1 hB)) rfl) <| sv (yAsg rfl) <| nil <| cwQ <| region <| sv (yMove h8) <| sv (yAdd rfl rfl ⟨by omega, by omega⟩) <| sv (yAsg rfl) <| nil ?_
     exact ⟨_, _, rfl, ⟨k + 1, _, h5, rfl, rfl, hS, (by omega), (by rw [heightsB_snoc hz, ← Bool.and_assoc, ← hG]), rfl⟩, by omega⟩
    ·
     simp only [BS, ne_eq] at c54
     obtain rfl : k = c.heights.length := by omega
     rw [List.take_length] at hG
     refine exit <| cwQ <| seq <| seq <| region <| sv (yMove h7) <| sv (yNot rfl) <| sv (yMove rfl) ?_
     refine sg rfl rfl rfl (fun g => (fa196_2 h5)) (fun v69 g69 => ?_)
     refine sg rfl rfl rfl (fun g => (yLdB (g69.1 g) isAgg3 (hS.at _) rfl)) (fun v70 g70 => ?_)
     refine sg rfl rfl rfl (fun g => (fa196_4 h5)) (fun v71 g71 => ?_)
     refine sg rfl rfl rfl (fun g => (yLdB (g71.1 g) isAgg3 (hS.at _) rfl)) (fun v72 g72 => ?_)
     refine sg rfl rfl rfl (fun g => (fa196_1 h5)) (fun v73 g73 => ?_)
     refine sg rfl rfl rfl (fun g => (yLdB (g73.1 g) isAgg39 (hS.at _) rfl)) (fun v74 g74 => ?_)
     refine sg rfl rfl rfl (fun g => (yLen (g74.1 g) underlying39)) (fun v75 g75 => ?_)
     refine sg rfl rfl rfl (fun g => (yMul (g72.1 g) (g75.1 g) (by have := base_den (hG ▸ g); have := cyc_bd this.1 this.2 c36.2; exact ⟨by omega, by omega⟩))) (fun v76 g76 => ?_)
     refine sg rfl rfl rfl (fun g => (ySub (g76.1 g) rfl (by have := base_den (hG ▸ g); have := cyc_bd this.1 this.2 c36.2; exact ⟨by omega, by omega⟩))) (fun v77 g77 => ?_)
     refine sgc hS rfl rfl rfl call163 (fun g => (.cons (g70.1 g) (.cons rfl (.cons (g77.1 g) .nil)))) (fun g => c_in) ?_; clear hS; intro v78 w hS g78
     refine sg rfl rfl rfl (fun g => (yNot (g78.1 g))) (fun v79 g79 => ?_)
     refine sv (yOr rfl rfl (fun hB => (g79.1 hB))) <| nil <| cwQ ?_
     refine cond rfl (fun c80 => ?_) (fun c80 => ?_)
     ·
      subst hG; rw [numsB_eq] at c80
      refine seq <| region <| sv (yAsg rfl) <| nil <| cwQ ?_
      refine wp_ret (thenR ?_)
      exact retV (res1 rfl (eqI (by rw [cErr7 c17 hM c36, if_pos c80]))) hS.ext
     ·
      subst hG; rw [numsB_eq] at c80
      refine skip <| cwQ <| seq <| region <| sv (yAsg rfl) <| nil <| cwQ <| wp_ret ?_
      exact retV (res1 rfl (eqI (by rw [cErr7 c17 hM c36, if_neg (by rw [c80]; decide)]))) hS.ext
set_option maxHeartbeats 1000000 in
theorem c_rCheck {t : Table} {cs : List Value} {w0 : World} (ht : RTable w0 cs t) : CV Tryz.prog 113 #[.agg cs.toArray] w0 (.tuple #[.int .i64 (checkT t).1, .int .i64 (checkT t).2]) := by
 obtain ⟨cv, rfl, hmean, hsl⟩ := id ht
 obtain ⟨a, cap, rfl, hcap, hmx, hel⟩ := id hsl
 refine enter func113 rfl ntmps113 rfl ?_
 have hS := St.start w0
 refine seq <| region ?_
 refine sbox hS rfl rfl ?_; clear hS; intro b1 w hS
 refine sv (yAsg rfl) <| sv (yAsg rfl) <| nil <| cwQ <| seq <| seq <| region <| sv (fa24_0 rfl) <| sv (yLdB rfl isAgg3 (hS.at _) rfl) ?_
 refine scV hS call163 (.cons rfl (.cons rfl (.cons rfl .nil))) c_in ?_; clear hS; intro w hS
 refine sv (yNot rfl) <| nil <| cwQ ?_
 refine cond rfl (fun c9 => ?_) (fun c9 => ?_)
 ·
  simp only [BS, ne_eq, inB] at c9
  refine seq <| region <| sv (yAsg rfl) <| sv (yAsg rfl) <| nil <| cwQ ?_
  have hfin : checkT t = (-1, 7) := by unfold checkT; rw [if_pos (by rw [outB_true]; omega)]
  refine wp_ret (thenR ?_)
  exact retV (res2 rfl (fstI hfin) (sndI hfin)) hS.ext
 ·
  simp only [BS, ne_eq, inB] at c9
  refine skip <| cwQ <| seq <| seq <| region <| sv (fa24_1 rfl) <| sv (yLdB rfl isAgg22 (hS.at _) rfl) <| sv (yLen rfl underlying22) <| sv (yGtr rfl rfl) ?_
  refine nil <| cwQ ?_
  refine cond rfl (fun c13 => ?_) (fun c13 => ?_)
  ·
   simp only [BS, ne_eq] at c13
   refine seq <| region <| sv (yAsg rfl) <| sv (yAsg rfl) <| nil <| cwQ ?_
   have hfin : checkT t = (-1, 3) := by unfold checkT; rw [if_neg (by rw [Bool.not_eq_true, outB_false]; omega), if_pos c13]
   refine wp_ret (thenR ?_)
   exact retV (res2 rfl (fstI hfin) (sndI hfin)) hS.ext
  ·
   simp only [BS, ne_eq] at c13
   have hgood : checkT t = checkL t.consts [] 0 := by unfold checkT; rw [if_neg (by rw [Bool.not_eq_true, outB_false]; omega), if_neg c13]
   refine skip <| cwQ <| seq <| seq <| region <| sv (yAsg rfl) <| nil <| cwQ <| block ?_
   refine loop (fun f w zz => ∃ (k : Nat), f 1 = ptQ b1 ∧ f 4 = .int .i64 (k : Int) ∧ StX [] w0 w [blk b1 [.int .i64 t.mean, .slice a t.consts.length cap] 24] ∧ (k ≤ t.consts.length) ∧ (checkT t = checkL (t.consts.drop k) ((t.consts.take k).map (·.name)) k) ∧ zz = t.consts.length - k) _ ⟨_, rfl, 0, rfl, rfl, hS, (Nat.zero_le _), (hgood), rfl⟩ ?_
   clear hS
   rintro f w _ ⟨k, h1, h4, hS, hk, hI, rfl⟩
   refine seq <| seq <| region <| sv (yMove h4) <| sv (fa24_1 h1) <| sv (yLdB rfl isAgg22 (hS.at _) rfl) <| sv (yLen rfl underlying22) <| sv (yLss rfl rfl) <| nil ?_
   refine cwQ ?_
   refine cond rfl (fun c18 => ?_) (fun c18 => ?_)
   ·
    simp only [BS, ne_eq] at c18
    obtain ⟨c, hx, hd⟩ := drop_of (l := t.consts) (k := k) (by omega)
    refine skip <| cwQ <| seq <| block <| seq <| region <| sv (yLdBA h1 isAgg24 sizeOf24 (hS.at _) rfl rfl) <| sv (yMove h4) ?_
    refine scV hS call164 (.cons rfl (.cons rfl .nil)) (c_rConst (ht.ext hS.ext) hx) ?_; clear hS; intro w hS
    refine sv (yAsg rfl) <| nil <| cwQ <| seq <| region <| sv (yMove rfl) <| sv (yNeq rfl rfl) <| nil <| cwQ ?_
    refine cond rfl (fun c25 => ?_) (fun c25 => ?_)
    ·
     simp only [BS, ne_eq] at c25
     refine seq <| region <| sv (yMove h4) <| sv (yMove rfl) <| sv (yAsg rfl) <| sv (yAsg rfl) <| nil <| cwQ ?_
     have hfin : checkT t = ((k : Int), cErr ((t.consts.take k).map (·.name)) c) := by rw [hI, hd, checkL, if_pos c25]
     refine wp_ret (blockR (thenR (thenR (blockR (thenR ?_)))))
     exact retV (res2 rfl (fstI hfin) (sndI hfin)) hS.ext
    ·
     simp only [BS, ne_eq] at c25
     refine skip <| cwQ <| region <| sv (yMove h4) <| sv (yAdd rfl rfl ⟨by omega, by omega⟩) <| sv (yAsg rfl) <| nil ?_
     exact ⟨_, _, rfl, ⟨k + 1, h1, rfl, hS, (by omega), (by rw [hI, hd, checkL, if_neg (fun h => h c25), take_names hx]; rfl), rfl⟩, by omega⟩
   ·
    simp only [BS, ne_eq] at c18
    obtain rfl : k = t.consts.length := by omega
    refine exit <| cwQ <| seq <| region <| sv (yAsg rfl) <| sv (yAsg rfl) <| nil <| cwQ ?_
    have hfin : checkT t = (0, 0) := by rw [hI, List.drop_length]; rfl
    refine wp_ret ?_
    exact retV (res2 rfl (fstI hfin) (sndI hfin)) hS.ext
end Go.Proofs.YtgidbailiababaaGreatDoor

/- part Sk3 -/
namespace Go.Proofs.YtgidbailiababaaGreatDoor
open Go Bx Go.Proofs.Tryz
theorem c_floor {a b : Int} {w0 : World} (hb : 0 < b) (ha : Bd a (-1000000000000) 1000000000000) : CV Tryz.prog 182 #[.int .i64 a, .int .i64 b] w0 (.int .i64 (a / b)) := by
 refine enter func182 rfl ntmps182 rfl ?_
 have hS := St.start w0
 refine seq <| region <| sv (yAsg rfl) <| nil <| cwQ <| seq <| seq <| region <| sv (yMove rfl) ?_
 refine sv (yMove rfl) <| sv (yRem rfl rfl (by omega)) <| sv (yLss rfl rfl) <| nil <| cwQ ?_
 refine cond rfl (fun c8 => ?_) (fun c8 => ?_)
 ·
  simp only [BS, ne_eq] at c8
  refine seq <| region <| sv (yMove rfl) <| sv (yMove rfl) <| sv (yQuo rfl rfl (by omega) ⟨by omega, by omega⟩) ?_
  refine sv (ySub rfl rfl (by have := tdiv_bd hb ha; exact ⟨by omega, by omega⟩)) ?_
  refine sv (yAsg rfl) <| nil <| cwQ ?_
  refine wp_ret (thenR ?_)
  exact retV (res1 rfl (eqI (by rw [← tdiv_floor hb, if_pos c8]))) hS.ext
 ·
  simp only [BS, ne_eq] at c8
  refine skip <| cwQ <| seq <| region <| sv (yMove rfl) <| sv (yMove rfl) <| sv (yQuo rfl rfl (by omega) ⟨by omega, by omega⟩) <| sv (yAsg rfl) <| nil ?_
  refine cwQ <| wp_ret ?_
  exact retV (res1 rfl (eqI (by rw [← tdiv_floor hb, if_neg c8]))) hS.ext
theorem c_add {b o : Nat} {T : TypeId} {cs : List Value} {lo hi : Int} {x : Span} {w0 : World} (hb : w0.heap[b]? = some (.cells cs.toArray T (0, 0))) (h0 : cs[o]? = some (.int .i64 lo)) (h1 : cs[o + 1]? = some (.int .i64 hi)) (hlo : I64 (lo + x.lo)) (hhi : I64 (hi + x.hi)) : CE Tryz.prog 154 #[.pointer (some ⟨b, o, none⟩), .agg (spanC x).toArray] w0 (fun v w' => v = .tuple #[] ∧ Put b (.cells (splice cs o [.int .i64 (lo + x.lo), .int .i64 (hi + x.hi)]).toArray T (0, 0)) w0 w') := by
 refine enter func154 rfl ntmps154 rfl ?_
 have hS := StX.start1 (b := b) ⟨_, hb, rfl⟩
 have hlen : o + 2 ≤ cs.length := (List.getElem?_eq_some_iff.1 h1).1
 refine seq <| region ?_
 refine sbox hS rfl rfl ?_; clear hS; intro b3 w hS
 refine nil <| cwQ <| seq <| region_tail mixed 11 (by kernel_rfl) hS <| qv (fun w hS => (yMove rfl)) <| qv (fun w hS => (yNil rfl)) <| qv (fun w hS => (fa200_0 rfl)) <| qv (fun w hS => (fa74_0 rfl)) <| qv (fun w hS => (yLdB rfl isAgg3 (hS.at _) h0)) ?_
 refine qv (fun w hS => (fa74_0 rfl)) <| qv (fun w hS => (yLdB rfl isAgg3 (hS.at _) rfl)) <| qv (fun w hS => (yAdd rfl rfl hlo)) <| qv (fun w hS => (yNil rfl)) <| qv (fun w hS => (fa200_0 rfl)) <| qv (fun w hS => (fa74_0 rfl)) ?_
 clear hS; refine qtl (fun w hS => ?_)
 refine sst hS rfl rfl sizeOf3 rfl rfl (by rw [Nat.ble_eq]; omega) rfl ?_; clear hS; intro w hS
 refine nil <| cwQ <| region_tail mixed 11 (by kernel_rfl) hS <| qv (fun w hS => (yMove rfl)) <| qv (fun w hS => (yNil rfl)) <| qv (fun w hS => (fa200_0 rfl)) <| qv (fun w hS => (fa74_1 rfl)) <| qv (fun w hS => (yLdB rfl isAgg3 (hS.at _) ((splice_get cs o _ hlen).trans h1))) <| qv (fun w hS => (fa74_1 rfl)) ?_
 refine qv (fun w hS => (yLdB rfl isAgg3 (hS.at _) rfl)) <| qv (fun w hS => (yAdd rfl rfl hhi)) <| qv (fun w hS => (yNil rfl)) <| qv (fun w hS => (fa200_0 rfl)) <| qv (fun w hS => (fa74_1 rfl)) ?_
 clear hS; refine qtl (fun w hS => ?_)
 refine sst hS rfl rfl sizeOf3 rfl rfl (ble_splice (k := 1) rfl (by omega) (by omega)) rfl ?_; clear hS; intro w hS
 refine nil ?_
 show bodyPost _ _ _ .normal _ _
 refine retN (results_none rfl _ _ _) ?_
 refine ⟨rfl, ?_⟩
 have h := hS.isPut
 have e := splice_two cs o (.int .i64 (lo + x.lo)) (.int .i64 (hi + x.hi)) hlen
 exact e ▸ h
set_option maxHeartbeats 1000000 in
theorem c_parts1 {bp bc : Nat} {Tp Tc : TypeId} {c : Const} {a : Option Addr} {cap : Nat} {pv : Int} {wb w0 : World} (hp : w0.heap[bp]? = some (.cells [.int .i64 pv].toArray Tp (0, 0))) (hc : w0.heap[bc]? = some (.cells [.string c.name, .slice a c.heights.length cap, .int .i64 c.off, .int .i64 c.step, .int .i64 c.den, .int .i64 c.slack].toArray Tc (0, 0))) (hne : bc ≠ bp) (hok : ConstOk c) (hpv : Bd pv 0 (c.den * c.heights.length - 1)) (he : Ext wb w0) (hbp : wb.heap.size ≤ bp) (hsl : Sl wb 1 RInt (.slice a c.heights.length cap) c.heights) : CE Tryz.prog 181 #[ptQ bp, ptQ bc] w0 (fun v w' => v = .agg (spanC (partP c pv)).toArray ∧ Put bp (.cells [.int .i64 ((pv + c.step) % (c.den * c.heights.length))].toArray Tp (0, 0)) w0 w') := by
 refine enter func181 rfl ntmps181 rfl ?_
 have hS := StX.start1 (b := bp) ⟨_, hp, rfl⟩
 obtain ⟨a1, cap1, hae, hq1, hq2, hel⟩ := id hsl
 obtain ⟨rfl, rfl⟩ := slice_inj hae
 have hqb := quot_bd hok hpv
 have hcy := cyc_pos hok
 have hden := hok.den
 have hln := hok.len
 have hst := hok.step
 have hsk := hok.slack
 have hib := interp_bd hok hpv
 have hm1 : Bd ((pv / c.den + 1) % c.heights.length) 0 (c.heights.length - 1) := ⟨Int.emod_nonneg _ (by omega), by have := Int.emod_lt_of_pos (pv / c.den + 1) (show 0 < (c.heights.length : Int) by omega); omega⟩
 have hh0 := height_bd hok (pv / c.den).toNat
 have hh1 := height_bd hok ((pv / c.den + 1) % c.heights.length).toNat
 have hmb := mul_bd (B := 1000) hh0 ⟨show 0 ≤ c.den by omega, hden.2⟩ (by decide)
 have hmb2 := mul_bd (a := c.heights.getD ((pv / c.den + 1) % c.heights.length).toNat 0 - c.heights.getD (pv / c.den).toNat 0) (A := 20000) (B := 1000) ⟨by omega, by omega⟩ ⟨hqb.2.1, by omega⟩ (by decide)
 obtain ⟨b2, o2, cs2, ha2, hlen2, hcs2, hR2⟩ := hel (pv / c.den).toNat (by omega)
 obtain ⟨rfl, _⟩ := hR2
 rw [show c.heights[(pv / c.den).toNat] = c.heights.getD (pv / c.den).toNat 0 from getD_at _ _ (by omega)] at hcs2
 obtain ⟨b3, o3, cs3, ha3, hlen3, hcs3, hR3⟩ := hel ((pv / c.den + 1) % c.heights.length).toNat (by omega)
 obtain ⟨rfl, _⟩ := hR3
 rw [show c.heights[((pv / c.den + 1) % c.heights.length).toNat] = c.heights.getD ((pv / c.den + 1) % c.heights.length).toNat 0 from getD_at _ _ (by omega)] at hcs3
 refine seq <| region ?_
 refine salloc hS zeroValue74 rfl ?_; clear hS; intro b2 w hS
 refine nil <| cwQ <| seq <| region_draw mixed (by kernel_rfl) hS <| qv (fun w hS => (yLdB rfl isAgg3 (hS.at _) rfl)) <| qv (fun w hS => (fa196_4 rfl)) <| qv (fun w hS => (yLdB rfl isAgg3 (hS.extx.get hc (by simpa using hne)) rfl)) <| qv (fun w hS => (yQuoP rfl rfl ⟨by omega, by omega⟩ (by omega))) <| qv (fun w hS => (yLdB rfl isAgg3 (hS.at _) rfl)) ?_
 refine qv (fun w hS => (fa196_4 rfl)) <| qv (fun w hS => (yLdB rfl isAgg3 (hS.extx.get hc (by simpa using hne)) rfl)) <| qv (fun w hS => (yRemP rfl rfl (by omega) (by omega))) <| qv (fun w hS => (yAsg rfl)) <| qv (fun w hS => (yAsg rfl)) ?_
 clear hS; refine qnil (fun w hS => ?_)
 refine cwQ <| seq <| region_draw mixed (by kernel_rfl) hS <| qv (fun w hS => (fa196_1 rfl)) <| qv (fun w hS => (yLdB rfl isAgg39 (hS.extx.get hc (by simpa using hne)) rfl)) <| qv (fun w hS => (yMove rfl)) <| qv (fun w hS => (yAdd rfl rfl ⟨by omega, by omega⟩)) <| qv (fun w hS => (fa196_1 rfl)) <| qv (fun w hS => (yLdB rfl isAgg39 (hS.extx.get hc (by simpa using hne)) rfl)) ?_
 refine qv (fun w hS => (yLen rfl underlying39)) <| qv (fun w hS => (yRemP rfl rfl (by omega) (by omega))) <| qv (fun w hS => (yIxQ rfl ha3 rfl runUnderlying39 sizeOf3)) <| qv (fun w hS => (yLd rfl isAgg3 ((hcs3.ext (hS.extx.old he (by simpa using hbp))).one))) <| qv (fun w hS => (yAsg rfl)) ?_
 clear hS; refine qnil (fun w hS => ?_)
 refine cwQ <| seq <| region_draw mixed (by kernel_rfl) hS <| qv (fun w hS => (fa196_1 rfl)) <| qv (fun w hS => (yLdB rfl isAgg39 (hS.extx.get hc (by simpa using hne)) rfl)) <| qv (fun w hS => (yMove rfl)) <| qv (fun w hS => (yIxQ rfl ha2 rfl runUnderlying39 sizeOf3)) <| qv (fun w hS => (yLd rfl isAgg3 ((hcs2.ext (hS.extx.old he (by simpa using hbp))).one))) <| qv (fun w hS => (fa196_4 rfl)) ?_
 refine qv (fun w hS => (yLdB rfl isAgg3 (hS.extx.get hc (by simpa using hne)) rfl)) <| qv (fun w hS => (yMul rfl rfl ⟨by omega, by omega⟩)) <| qv (fun w hS => (yMove rfl)) <| qv (fun w hS => (fa196_1 rfl)) <| qv (fun w hS => (yLdB rfl isAgg39 (hS.extx.get hc (by simpa using hne)) rfl)) <| qv (fun w hS => (yMove rfl)) <| qv (fun w hS => (yIxQ rfl ha2 rfl runUnderlying39 sizeOf3)) <| qv (fun w hS => (yLd rfl isAgg3 ((hcs2.ext (hS.extx.old he (by simpa using hbp))).one))) <| qv (fun w hS => (ySub rfl rfl ⟨by omega, by omega⟩)) ?_
 refine qv (fun w hS => (yMove rfl)) <| qv (fun w hS => (yMul rfl rfl ⟨by omega, by omega⟩)) <| qv (fun w hS => (Y.to (yAdd rfl rfl ⟨by omega, by omega⟩) (congrArg _ (interp_eq c pv)))) <| qv (fun w hS => (yAsg rfl)) ?_
 clear hS; refine qnil (fun w hS => ?_)
 refine cwQ <| seq <| region_tail mixed 7 (by kernel_rfl) hS <| qv (fun w hS => (yLdB rfl isAgg3 (hS.at _) rfl)) <| qv (fun w hS => (fa196_3 rfl)) <| qv (fun w hS => (yLdB rfl isAgg3 (hS.extx.get hc (by simpa using hne)) rfl)) <| qv (fun w hS => (yAdd rfl rfl ⟨by omega, by omega⟩)) <| qv (fun w hS => (yLdBA rfl isAgg196 sizeOf196 (hS.extx.get hc (by simpa using hne)) rfl rfl)) <| qcall call153 (.cons rfl .nil) (fun w hS => (c_cycle ⟨by omega, by omega⟩)) ?_
 refine qv (fun w hS => (yRemP rfl rfl (by omega) (by omega))) ?_
 clear hS; refine qtl (fun w hS => ?_)
 refine sst hS rfl rfl sizeOf3 rfl rfl rfl rfl ?_; clear hS; intro w hS
 refine nil <| cwQ <| seq <| region_tail mixed 17 (by kernel_rfl) hS <| qv (fun w hS => (yMove rfl)) <| qv (fun w hS => (fa196_4 rfl)) <| qv (fun w hS => (yLdB rfl isAgg3 (hS.extx.get hc (by simpa using hne)) rfl)) <| qcall call182 (.cons rfl (.cons rfl .nil)) (fun w hS => (c_floor (by omega) ⟨by omega, by omega⟩)) <| qv (fun w hS => (fa196_5 rfl)) ?_
 refine qv (fun w hS => (yLdB rfl isAgg3 (hS.extx.get hc (by simpa using hne)) rfl)) ?_
 have hd1 := div_bd (A := 10000) (show 0 < c.den by omega) hib
 have hd2 := div_bd (a := -interp c pv) (b := c.den) (A := 10000) (by omega) ⟨by omega, by omega⟩
 refine qv (fun w hS => (ySub rfl rfl ⟨by omega, by omega⟩)) <| qv (fun w hS => (yMove rfl)) <| qv (fun w hS => (yNeg rfl ⟨by omega, by omega⟩)) <| qv (fun w hS => (fa196_4 rfl)) <| qv (fun w hS => (yLdB rfl isAgg3 (hS.extx.get hc (by simpa using hne)) rfl)) <| qcall call182 (.cons rfl (.cons rfl .nil)) (fun w hS => (c_floor (by omega) ⟨by omega, by omega⟩)) <| qv (fun w hS => (yNeg rfl ⟨by omega, by omega⟩)) <| qv (fun w hS => (fa196_5 rfl)) <| qv (fun w hS => (yLdB rfl isAgg3 (hS.extx.get hc (by simpa using hne)) rfl)) ?_
 refine qv (fun w hS => (yAdd rfl rfl ⟨by omega, by omega⟩)) <| qv (fun w hS => (yBuild zeroValue74 rfl pl74 (.cons rfl rfl (.cons rfl rfl .nil)) rfl)) ?_
 clear hS; refine qtl (fun w hS => ?_)
 refine sst hS rfl rfl sizeOf74 rfl rfl rfl rfl ?_; clear hS; intro w hS
 refine nil <| cwQ <| wp_ret <| retQ (resV1 rfl (rc rfl isAgg74 sizeOf74 (hS.at _) rfl rfl)) ?_
 exact ⟨rfl, hS.isPut⟩
theorem c_parts {c : Const} {a : Option Addr} {cap : Nat} {tick : Int} {w0 : World} (hok : ConstOk c) (ht : Bd tick 0 300000) : CE Tryz.prog 155 #[.agg [.string c.name, .slice a c.heights.length cap, .int .i64 c.off, .int .i64 c.step, .int .i64 c.den, .int .i64 c.slack].toArray, .int .i64 tick] w0 (fun v w' => ∃ bp bc, v = .func (.func 181) #[] [ptQ bp, ptQ bc].toArray ∧ St w0 w' [blk bp [.int .i64 (pAt c tick)] 3, blk bc [.string c.name, .slice a c.heights.length cap, .int .i64 c.off, .int .i64 c.step, .int .i64 c.den, .int .i64 c.slack] 196]) := by
 refine enter func155 rfl ntmps155 rfl ?_
 have hS := St.start w0
 have hcy := cyc_pos hok
 have hst := hok.step
 have hof := hok.off
 have hmb := mul_bd (a := tick) (b := c.step) (A := 300000) (B := 100000) ⟨by omega, by omega⟩ ⟨by omega, by omega⟩ (by decide)
 rw [Int.mul_comm] at hmb
 have hnn : 0 ≤ c.step * tick := Int.mul_nonneg (by omega) ht.1
 refine seq <| region ?_
 refine sbox hS rfl rfl ?_; clear hS; intro b2 w hS
 refine sv (yAsg rfl) <| nil <| cwQ <| seq ?_
 refine region_any (C := (fun w => StX [] w0 w [blk b2 [.string c.name, .slice a c.heights.length cap, .int .i64 c.off, .int .i64 c.step, .int .i64 c.den, .int .i64 c.slack] 196])) mixed 8 11 (by kernel_rfl) (fun c a a' w h => by obtain ⟨_, v, hv, _⟩ := h; cases hv) hS (fun _ h => h) ?_
 clear hS; intro w hS
 refine hv (fun w hS => (fa196_2 rfl)) <| hv (fun w hS => (yLdB rfl isAgg3 (hS.at _) rfl)) <| hv (fun w hS => (fa196_3 rfl)) <| hv (fun w hS => (yLdB rfl isAgg3 (hS.at _) rfl)) <| hv (fun w hS => (yMove rfl)) <| hv (fun w hS => (yMul rfl rfl ⟨by omega, by omega⟩)) <| hv (fun w hS => (yAdd rfl rfl ⟨by omega, by omega⟩)) <| hv (fun w hS => (yLdBA rfl isAgg196 sizeOf196 (hS.at _) rfl rfl)) <| hnil ?_
 refine awQ ?_
 refine a_step (i := 8) (is := [10]) (by kernel_rfl) ⟨?_, ?_, trivial⟩
 ·
  refine ⟨_, rfl, ?_⟩
  refine scV hS call153 (.cons rfl .nil) (c_cycle ⟨by omega, by omega⟩) ?_; clear hS; intro w hS
  refine nil ?_
  refine ⟨fun _ => hS.sub lrQ, ?_⟩
  refine awQ ?_
  refine a_step (i := 9) (is := [10]) (by kernel_rfl) ⟨?_, ?_, trivial⟩
  ·
   refine ⟨_, rfl, ?_⟩
   refine sv (yRemP rfl rfl (by omega) (by omega)) <| nil ?_
   refine ⟨fun _ => hS.sub lrQ, ?_⟩
   refine awQ <| a1Q 10 (by kernel_rfl) rfl ?_
   refine salloc hS zeroValue3 rfl ?_; clear hS; intro b5 w hS
   refine nil ?_
   refine ⟨fun _ => hS.sub (.cons _ lrQ), ?_⟩
   refine awQ <| a1Q 11 (by kernel_rfl) rfl ?_
   refine sst hS rfl rfl sizeOf3 rfl rfl rfl rfl ?_; clear hS; intro w hS
   refine nil ?_
   refine ⟨fun h => absurd h (by decide), ?_⟩
   refine awQ <| a_end (by kernel_rfl) <| cwQ <| seq <| region <| sv (yFn (.cons rfl (.cons rfl .nil))) <| sv (yAsg rfl) <| nil <| cwQ ?_
   refine wp_ret <| retQ (res1 rfl rfl) ?_
   exact ⟨b5, b2, rfl, hS⟩
  ·
   refine ⟨_, rfl, ?_⟩
   refine salloc hS zeroValue3 rfl ?_; clear hS; intro b5 w hS
   refine nil ?_
   refine ⟨fun _ => hS.sub (.cons _ lrQ), ?_⟩
   refine awQ <| a1Q 9 (by kernel_rfl) rfl <| sv (yRemP rfl rfl (by omega) (by omega)) <| nil ?_
   refine ⟨fun _ => hS.sub (.cons _ lrQ), ?_⟩
   refine awQ <| a1Q 11 (by kernel_rfl) rfl ?_
   refine sst hS rfl rfl sizeOf3 rfl rfl rfl rfl ?_; clear hS; intro w hS
   refine nil ?_
   refine ⟨fun h => absurd h (by decide), ?_⟩
   refine awQ <| a_end (by kernel_rfl) <| cwQ <| seq <| region <| sv (yFn (.cons rfl (.cons rfl .nil))) <| sv (yAsg rfl) <| nil <| cwQ ?_
   refine wp_ret <| retQ (res1 rfl rfl) ?_
   exact ⟨b5, b2, rfl, hS⟩
 ·
  refine ⟨_, rfl, ?_⟩
  refine salloc hS zeroValue3 rfl ?_; clear hS; intro b5 w hS
  refine nil ?_
  refine ⟨fun _ => hS.sub (.cons _ lrQ), ?_⟩
  refine awQ <| a1Q 8 (by kernel_rfl) rfl ?_
  refine scV hS call153 (.cons rfl .nil) (c_cycle ⟨by omega, by omega⟩) ?_; clear hS; intro w hS
  refine nil ?_
  refine ⟨fun _ => hS.sub (.cons _ lrQ), ?_⟩
  refine awQ <| a1Q 9 (by kernel_rfl) rfl <| sv (yRemP rfl rfl (by omega) (by omega)) <| nil ?_
  refine ⟨fun _ => hS.sub (.cons _ lrQ), ?_⟩
  refine awQ <| a1Q 11 (by kernel_rfl) rfl ?_
  refine sst hS rfl rfl sizeOf3 rfl rfl rfl rfl ?_; clear hS; intro w hS
  refine nil ?_
  refine ⟨fun h => absurd h (by decide), ?_⟩
  refine awQ <| a_end (by kernel_rfl) <| cwQ <| seq <| region <| sv (yFn (.cons rfl (.cons rfl .nil))) <| sv (yAsg rfl) <| nil <| cwQ ?_
  refine wp_ret <| retQ (res1 rfl rfl) ?_
  exact ⟨b5, b2, rfl, hS⟩
set_option maxHeartbeats 2000000 in
theorem c_levels {t : Table} {cv : Value} {from_ : Int} {n : Nat} {w0 : World} (hsl : Sl w0 6 RConst cv t.consts) (hok : TableOk t) (hf : Bd from_ 0 200000) (hn : n ≤ 400) : CE Tryz.prog 100 #[.agg [.int .i64 t.mean, cv].toArray, .int .i64 from_, .int .i64 (n : Int)] w0 (fun v w' => St w0 w' [rowI v 74 2 n (((List.range n).map fun (i : Nat) => lvlT t (from_ + i)).flatMap spanC)]) := by
 obtain ⟨a, cap, rfl, hcap, hmx, hel⟩ := hsl
 have hmean := hok.mean
 have hlen12 := hok.len
 refine enter func100 rfl ntmps100 rfl ?_
 have hS := St.start w0
 refine seq <| region ?_
 refine sbox hS rfl rfl ?_; clear hS; intro b3 w hS
 refine sv (yAsg rfl) <| nil <| cwQ <| seq <| region <| sv (yMove rfl) ?_
 refine smake (bytes := 16) (zs := [.int .i64 0, .int .i64 0]) (m := n) hS rfl rfl underlying198 ti200 rfl rfl rfl rfl rfl (by omega) (by omega) ?_; clear hS; intro b17 w hS
 rw [rep_flat] at hS
 refine sv (yAsg rfl) <| nil <| cwQ <| seq <| seq <| region <| sv (yMove rfl) <| sv (yLen rfl underlying198) <| sv (yMove rfl) ?_
 refine nil <| cwQ <| block <| loop (fun f w zz => ∃ (k : Nat) (l : List Span), f 1 = .int .i64 from_ ∧ f 3 = ptQ b3 ∧ f 7 = .slice (some ⟨b17, 0, none⟩) n n ∧ f 19 = .int .i64 (n : Int) ∧ f 20 = .int .i64 (k : Int) ∧ StX [] w0 w [blk b17 (l.flatMap spanC) 200, blk b3 [.int .i64 t.mean, .slice a t.consts.length cap] 24] ∧ (k ≤ n) ∧ (l.length = n) ∧ (∀ i, i < n → l[i]? = some (if i < k then ⟨t.mean, t.mean⟩ else ⟨0, 0⟩)) ∧ zz = n - k) _ ⟨_, rfl, 0, _, rfl, rfl, rfl, rfl, rfl, hS, (Nat.zero_le _), (List.length_replicate), (fun i hi => by simp [hi]), rfl⟩ ?_
 clear hS
 rintro f w _ ⟨k, l, h1, h3, h7, h19, h20, hS, hk, hll, hrow, rfl⟩
 refine seq <| region <| sv (yLss h20 h19) <| nil <| cwQ <| seq ?_
 refine cond rfl (fun c21 => ?_) (fun c21 => ?_)
 ·
  simp only [BS, ne_eq] at c21
  refine skip <| cwQ <| seq <| block <| seq <| region <| sv (yMove h20) <| sv (yAsg rfl) <| nil ?_
  refine cwQ <| region_tail mixed 8 (by kernel_rfl) hS ?_
  have hrow_k := hrow k (by omega)
  rw [if_neg (Nat.lt_irrefl k)] at hrow_k
  refine qv (fun w hS => (yMove h7)) <| qv (fun w hS => (yMove rfl)) <| qv (fun w hS => (yIx0 rfl rfl runUnderlying198 sizeOf200 (by omega))) <| qv (fun w hS => (fa24_0 h3)) <| qv (fun w hS => (yLdB rfl isAgg3 (hS.at _) rfl)) <| qv (fun w hS => (fa24_0 h3)) <| qv (fun w hS => (yLdB rfl isAgg3 (hS.at _) rfl)) <| qv (fun w hS => (yBuild zeroValue74 rfl pl74 (.cons rfl rfl (.cons rfl rfl .nil)) rfl)) ?_
  clear hS; refine qtl (fun w hS => ?_)
  refine scall call154 (.cons rfl (.cons rfl .nil)) (c_add (o := k * 2) (lo := 0) (hi := 0) (x := ⟨t.mean, t.mean⟩) (blk0 (hS.at b17)) (flat2 spanC_len hrow_k 0 rfl) (flat2 spanC_len hrow_k 1 rfl) ⟨by simp only []; omega, by simp only []; omega⟩ ⟨by simp only []; omega, by simp only []; omega⟩) ?_; rintro _ w ⟨rfl, hput⟩; replace hS := hS.put hput; clear hput; simp only [Int.zero_add] at hS
  refine nil <| cwQ <| region <| sv (yAdd h20 rfl ⟨by omega, by omega⟩) <| sv (yMove rfl) <| nil ?_
  exact ⟨_, _, rfl, ⟨k + 1, l.set k ⟨t.mean, t.mean⟩, h1, h3, h7, h19, rfl, (by rw [← splice_enc spanC_len l k _ (by omega)]; exact hS), (by omega), (by simpa using hll), (set_get (A := fun _ => ⟨t.mean, t.mean⟩) (B := fun _ => ⟨0, 0⟩) hll (by omega) rfl hrow), rfl⟩, by omega⟩
 ·
  simp only [BS, ne_eq] at c21
  refine exit <| cwQ <| seq <| seq <| region <| sv (fa24_1 h3) <| sv (yLdB rfl isAgg22 (hS.at _) rfl) <| sv (yLen rfl underlying22) <| sv (yMove rfl) ?_
  refine nil <| cwQ <| block ?_
  obtain rfl : n = k := by omega
  refine loop (fun f w zz => ∃ (k : Nat) (l : List Span), f 1 = .int .i64 from_ ∧ f 7 = .slice (some ⟨b17, 0, none⟩) n n ∧ f 34 = .slice a t.consts.length cap ∧ f 35 = .int .i64 (t.consts.length : Int) ∧ f 36 = .int .i64 (k : Int) ∧ StX [] w0 w [blk b17 (l.flatMap spanC) 200] ∧ (k ≤ t.consts.length) ∧ (l.length = n) ∧ (∀ i, i < n → l[i]? = some (lvl t.mean (t.consts.take k) (from_ + i))) ∧ zz = t.consts.length - k) _ ⟨_, rfl, 0, _, h1, h7, rfl, rfl, rfl, (hS.sub (.cons_cons _ (List.nil_sublist _))), (Nat.zero_le _), (hll), (fun i hi => by rw [hrow i hi, if_pos hi]; rfl), rfl⟩ ?_
  clear hS
  rintro f w _ ⟨k, l, h1, h7, h34, h35, h36, hS, hk, hll, hrow, rfl⟩
  refine seq <| region <| sv (yLss h36 h35) <| nil <| cwQ <| seq ?_
  refine cond rfl (fun c37 => ?_) (fun c37 => ?_)
  ·
   simp only [BS, ne_eq] at c37
   refine skip <| cwQ <| seq <| block <| seq <| region ?_
   obtain ⟨c, hx, hd⟩ := drop_of (l := t.consts) (k := k) (by omega)
   have hcok : ConstOk c := hok.consts c (List.mem_of_getElem? hx)
   obtain ⟨b, o, cs, ha, hlen, hcs, hR⟩ := hel k (by omega)
   obtain rfl : c = t.consts[k] := (List.getElem?_eq_some_iff.1 hx).2.symm
   generalize t.consts[k] = c at hx hd hR hcok
   obtain ⟨hv, rfl, hn1, hsl1, _, _, _, _⟩ := hR
   obtain ⟨a1, cap1, rfl, hq1, hq2, hq3⟩ := id hsl1
   refine sv (yIxQ h34 ha h36 runUnderlying22 sizeOf196) <| sv (yLdA rfl isAgg196 sizeOf196 (hcs.ext hS.ext) rfl) ?_
   refine salloc hS zeroValue196 rfl ?_; clear hS; intro b10 w hS
   refine sst hS rfl rfl sizeOf196 rfl rfl rfl rfl ?_; clear hS; intro w hS
   refine nil <| cwQ <| seq <| region <| sv (yLdBA rfl isAgg196 sizeOf196 (hS.at _) rfl rfl) <| sv (yMove h1) ?_
   refine scall call155 (.cons rfl (.cons rfl .nil)) (c_parts hcok ⟨by omega, by omega⟩) ?_
   rintro _ w ⟨bp, bc, rfl, hM⟩; replace hS := hS.call hM; clear hM
   refine sv (yAsg rfl) <| nil <| cwQ <| seq <| region <| sv (yMove h7) <| sv (yLen rfl underlying198) <| sv (yMove rfl) <| nil ?_
   refine cwQ <| block ?_
   refine loop (fun f w zz => ∃ (j : Nat) (l : List Span), f 1 = .int .i64 from_ ∧ f 7 = .slice (some ⟨b17, 0, none⟩) n n ∧ f 11 = .func (.func 181) #[] [ptQ bp, ptQ bc].toArray ∧ f 34 = .slice a t.consts.length cap ∧ f 35 = .int .i64 (t.consts.length : Int) ∧ f 36 = .int .i64 (k : Int) ∧ f 44 = .int .i64 (n : Int) ∧ f 45 = .int .i64 (j : Int) ∧ StX [] w0 w [blk bp [.int .i64 (pAt c (from_ + j))] 3, blk bc [.string c.name, .slice a1 c.heights.length cap1, .int .i64 c.off, .int .i64 c.step, .int .i64 c.den, .int .i64 c.slack] 196, blk b17 (l.flatMap spanC) 200] ∧ (j ≤ n) ∧ (l.length = n) ∧ (∀ i, i < n → l[i]? = some (if i < j then lvl t.mean (t.consts.take (k + 1)) (from_ + i) else lvl t.mean (t.consts.take k) (from_ + i))) ∧ zz = n - j) _ ⟨_, rfl, 0, _, h1, h7, rfl, h34, h35, h36, rfl, rfl, (by rw [show from_ + ((0 : Nat) : Int) = from_ from Int.add_zero _]; exact hS.sub (.cons_cons _ (.cons_cons _ (.cons _ lrQ)))), (Nat.zero_le _), (hll), (fun i hi => by rw [hrow i hi]; simp), rfl⟩ ?_
   clear hS
   rintro f w _ ⟨j, l, h1, h7, h11, h34, h35, h36, h44, h45, hS, hj, hll, hrow, rfl⟩
   refine seq <| region <| sv (yLss h45 h44) <| nil <| cwQ <| seq ?_
   refine cond rfl (fun c46 => ?_) (fun c46 => ?_)
   ·
    simp only [BS, ne_eq] at c46
    refine skip <| cwQ <| seq <| block <| seq <| region <| sv (yMove h45) <| sv (yAsg rfl) <| nil ?_
    refine cwQ ?_
    refine region_any (C := (fun _ => True)) mixed 4 6 (by kernel_rfl) (fun c a a' w h => by obtain ⟨_, v, hv, _⟩ := h; cases hv) hS (fun _ _ => trivial) ?_
    clear hS; intro w hS
    have hrow_k := hrow j (by omega)
    rw [if_neg (Nat.lt_irrefl j)] at hrow_k
    have hlb := lvl_bd hmean (t.consts.take k) (from_ + j) (fun x hx => hok.consts x (List.mem_of_mem_take hx))
    have htl : (t.consts.take k).length ≤ 12 := by simp; omega
    have hpb := partP_bd hcok (pAt_bd hcok (from_ + j))
    refine hv (fun w hS => (yMove h7)) <| hv (fun w hS => (yMove rfl)) <| hv (fun w hS => (yIx0 rfl rfl runUnderlying198 sizeOf200 (by omega))) <| hv (fun w hS => (yMove h11)) <| hnil <| awQ <| a1Q 4 (by kernel_rfl) rfl ?_
    refine scallf rfl call181 .nil (c_parts1 (hS.at bp) (hS.at bc) (hS.ne2 (by simp [fps, cellI])) hcok (pAt_bd hcok _) hS.ext (hS.owned (by simp [fps, cellI])) hsl1) ?_; rintro _ w ⟨rfl, hput⟩; replace hS := hS.put hput; clear hput
    refine nil ?_
    refine ⟨fun _ => trivial, ?_⟩
    refine awQ <| a1Q 5 (by kernel_rfl) rfl ?_
    refine scall call154 (.cons rfl (.cons rfl .nil)) (c_add (o := j * 2) (x := partP c (pAt c (from_ + j))) (blk0 (hS.at b17)) (flat2 spanC_len hrow_k 0 rfl) (flat2 spanC_len hrow_k 1 rfl) ⟨by omega, by omega⟩ ⟨by omega, by omega⟩) ?_; rintro _ w ⟨rfl, hput⟩; replace hS := hS.put hput; clear hput
    refine nil ?_
    refine ⟨fun _ => trivial, ?_⟩
    refine awQ <| a_end (by kernel_rfl) <| cwQ <| region <| sv (yAdd h45 rfl ⟨by omega, by omega⟩) <| sv (yMove rfl) <| nil ?_
    exact ⟨_, _, rfl, ⟨j + 1, l.set j (addS (lvl t.mean (t.consts.take k) (from_ + j)) (partP c (pAt c (from_ + j)))), h1, h7, h11, h34, h35, h36, h44, rfl, (by rw [← splice_enc spanC_len l j _ (by omega), show from_ + ((j + 1 : Nat) : Int) = from_ + j + 1 by omega, ← pAt_succ]; exact hS), (by omega), (by simpa using hll), (set_get (A := fun (i : Nat) => lvl t.mean (t.consts.take (k + 1)) (from_ + i)) (B := fun (i : Nat) => lvl t.mean (t.consts.take k) (from_ + i)) hll (by omega) (lvl_take hx t.mean (from_ + j)).symm hrow), rfl⟩, by omega⟩
   ·
    simp only [BS, ne_eq] at c46
    refine exit <| cwQ <| region <| sv (yAdd h36 rfl ⟨by omega, by omega⟩) <| sv (yMove rfl) <| nil ?_
    obtain rfl : n = j := by omega
    exact ⟨_, _, rfl, ⟨k + 1, _, h1, h7, h34, h35, rfl, (hS.sub (.cons _ (.cons _ (.cons_cons _ (List.nil_sublist _))))), (by omega), (hll), (fun i hi => by rw [hrow i hi, if_pos hi]), rfl⟩, by omega⟩
  ·
   simp only [BS, ne_eq] at c37
   refine exit <| cwQ <| seq <| region <| sv (yAsg rfl) <| nil <| cwQ <| seq <| seq ?_
   refine region <| sv (yMove h7) <| sv (yLen rfl underlying198) <| sv (yMove rfl) <| nil <| cwQ <| block ?_
   obtain rfl : k = t.consts.length := by omega
   refine loop (fun f w zz => ∃ (j : Nat) (v : Value), f 13 = v ∧ f 56 = .slice (some ⟨b17, 0, none⟩) n n ∧ f 57 = .int .i64 (n : Int) ∧ f 58 = .int .i64 (j : Int) ∧ StX [] w0 w [rowI v 74 2 j (((List.range j).map fun (i : Nat) => lvlT t (from_ + i)).flatMap spanC), blk b17 (l.flatMap spanC) 200] ∧ (j ≤ n) ∧ (l.length = n) ∧ (∀ i, i < n → l[i]? = some (lvlT t (from_ + i))) ∧ zz = n - j) _ ⟨_, rfl, 0, _, rfl, rfl, rfl, rfl, (hS.nilrow 74 2), (Nat.zero_le _), (hll), (fun i hi => by rw [hrow i hi, List.take_length]; rfl), rfl⟩ ?_
   clear hS
   rintro f w _ ⟨j, v, h13, h56, h57, h58, hS, hj, hll, hrow, rfl⟩
   refine seq <| region <| sv (yLss h58 h57) <| nil <| cwQ <| seq ?_
   refine cond rfl (fun c59 => ?_) (fun c59 => ?_)
   ·
    simp only [BS, ne_eq] at c59
    refine skip <| cwQ <| seq <| block <| seq <| region ?_
    have hrow_j := hrow j (by omega)
    refine sv (yIx0 h56 h58 runUnderlying198 sizeOf200 (by omega)) <| sv (yLdA rfl isAgg200 sizeOf200 (flat_cells0 spanC_len (blk_cells (hS.at b17)) hrow_j) rfl) ?_
    refine salloc hS zeroValue200 rfl ?_; clear hS; intro b15 w hS
    refine sst hS rfl rfl sizeOf200 rfl rfl rfl rfl ?_; clear hS; intro w hS
    refine nil <| cwQ <| region <| sv (yMove h13) <| sv (fa200_0 rfl) <| sv (yLdBA rfl isAgg74 sizeOf74 (hS.at _) rfl rfl) ?_
    refine sbslice hS underlying86 sizeOf74 rfl zeroValue74 rfl (.cons rfl rfl .nil) rfl ?_; clear hS; intro b65 w hS
    refine sapp (bytes := 16) (size := 2) (v := v) (m := 1) hS rfl rfl underlying86 ti74 rfl rfl rfl rfl (by decide) (blk_cells (hS.at _)) rfl rfl (by omega) (by omega) ?_; clear hS; intro v66 w hS
    refine sv (yAsg rfl) <| nil <| cwQ <| region <| sv (yAdd h58 rfl ⟨by omega, by omega⟩) <| sv (yMove rfl) <| nil ?_
    exact ⟨_, _, rfl, ⟨j + 1, _, rfl, h56, h57, rfl, (by rw [List.range_succ, List.map_append, List.flatMap_append]; exact hS.sub (.cons _ (.cons _ lrQ))), (by omega), (hll), (hrow), rfl⟩, by omega⟩
   ·
    simp only [BS, ne_eq] at c59
    refine exit <| cwQ <| seq <| region <| sv (yMove h13) <| sv (yAsg rfl) <| nil <| cwQ ?_
    obtain rfl : n = j := by omega
    refine wp_ret <| retQ (res1 rfl rfl) ?_
    show St w0 w [rowI v 74 2 n _]; exact hS.one _
theorem c_ticks1 {h : Int} {w0 : World} : CV Tryz.prog 170 #[.int .i64 h] w0 (.bool (outB h 0 200000)) := by
 refine enter func170 rfl ntmps170 rfl ?_
 have hS := St.start w0
 refine seq <| region <| sv (yAsg rfl) <| nil <| cwQ <| seq <| region <| sv (yMove rfl) ?_
 refine scV hS call72 (.cons rfl (.cons rfl (.cons rfl .nil))) c_out ?_; clear hS; intro w hS
 refine sv (yAsg rfl) <| nil <| cwQ <| wp_ret ?_
 exact retV (res1 rfl rfl) hS.ext
theorem c_ticks {l : List Int} {v : Value} {w0 : World} (hsl : Sl w0 1 RInt v l) : CV Tryz.prog 132 #[v] w0 (.int .i64 (ticksE l)) := by
 refine enter func132 rfl ntmps132 rfl ?_
 have hS := St.start w0
 refine seq <| region <| sv (yAsg rfl) <| nil <| cwQ <| seq <| seq <| region <| sv (yMove rfl) ?_
 refine scV hS call108 (.cons rfl (.cons rfl .nil)) (c_ContainsFuncInt (cl := []) (hsl.ext RInt.stays hS.ext) call170 (fun x cs w _ _ _ => c_ticks1)) ?_; clear hS; intro w hS
 refine nil <| cwQ ?_
 refine cond rfl (fun c4 => ?_) (fun c4 => ?_)
 ·
  refine seq <| region <| sv (yAsg rfl) <| nil <| cwQ ?_
  refine wp_ret (thenR ?_)
  exact retV (res1 rfl (eqI (by unfold ticksE; rw [if_pos c4]))) hS.ext
 ·
  refine skip <| cwQ <| seq <| region <| sv (yAsg rfl) <| nil <| cwQ <| wp_ret ?_
  exact retV (res1 rfl (eqI (by unfold ticksE; rw [if_neg (by rw [c4]; decide)]))) hS.ext
end Go.Proofs.YtgidbailiababaaGreatDoor

/- part Sk4 -/
namespace Go.Proofs.YtgidbailiababaaGreatDoor
open Go Bx Go.Proofs.Tryz
theorem c_CheckGauge1 {b : Nat} {T : TypeId} {g : Gauge} {dv rv : Value} {w0 : World} (hb : w0.heap[b]? = some (.cells [.string g.name, .int .i64 g.err, .int .i64 g.rate, dv, rv].toArray T (0, 0))) (hs : g.name.size ≤ 9223372036854775807) : CV Tryz.prog 156 #[ptQ b] w0 (.bool (!isName g.name)) := by
 refine enter func156 rfl ntmps156 rfl ?_
 have hS := St.start w0
 refine seq <| region <| sv (yAsg rfl) <| nil <| cwQ <| seq <| region <| sv (fa68_0 rfl) <| sv (yLdB rfl isAgg9 (hS.ext.get hb) rfl) ?_
 refine scV hS call102 (.cons rfl .nil) (c_Name hs) ?_; clear hS; intro w hS
 refine sv (yNot rfl) <| sv (yAsg rfl) <| nil <| cwQ <| wp_ret ?_
 exact retV (res1 rfl rfl) hS.ext
theorem c_CheckGauge2 {b : Nat} {T : TypeId} {g : Gauge} {dv rv : Value} {w0 : World} (hb : w0.heap[b]? = some (.cells [.string g.name, .int .i64 g.err, .int .i64 g.rate, dv, rv].toArray T (0, 0))) : CV Tryz.prog 157 #[ptQ b] w0 (.bool (outB g.err 0 5000 || outB g.rate 0 5000)) := by
 refine enter func157 rfl ntmps157 rfl ?_
 have hS := St.start w0
 refine seq <| region <| sv (yAsg rfl) <| nil <| cwQ <| seq <| region <| sv (fa68_1 rfl) <| sv (yLdB rfl isAgg3 (hS.ext.get hb) rfl) ?_
 refine scV hS call72 (.cons rfl (.cons rfl (.cons rfl .nil))) c_out ?_; clear hS; intro w hS
 refine sv (yMove rfl) ?_
 refine sg rfl rfl rfl (fun g => (fa68_2 rfl)) (fun v6 g6 => ?_)
 refine sg rfl rfl rfl (fun g => (yLdB (g6.1 g) isAgg3 (hS.ext.get hb) rfl)) (fun v7 g7 => ?_)
 refine sgc hS rfl rfl rfl call72 (fun g => (.cons (g7.1 g) (.cons rfl (.cons rfl .nil)))) (fun g => c_out) ?_; clear hS; intro v8 w hS g8
 refine sv (yOr rfl rfl (fun hB => (g8.1 hB))) <| sv (yAsg rfl) <| nil <| cwQ <| wp_ret ?_
 exact retV (res1 rfl rfl) hS.ext
set_option maxHeartbeats 1000000 in
theorem c_CheckGauge {g : Gauge} {cs : List Value} {w0 : World} (hg : RGauge w0 cs g) : CV Tryz.prog 101 #[.agg cs.toArray] w0 (.tuple #[.int .i64 (checkG g).1, .int .i64 (checkG g).2.1, .int .i64 (checkG g).2.2]) := by
 obtain ⟨dv, rv, rfl, hnm, hge, hgr, hsd, hsr⟩ := id hg
 obtain ⟨a, cap, rfl, hcap, hmx, hel⟩ := id hsd
 obtain ⟨a2, cap2, rfl, hcap2, hmx2, hel2⟩ := id hsr
 refine enter func101 rfl ntmps101 rfl ?_
 have hS := St.start w0
 refine seq <| region ?_
 refine sbox hS rfl rfl ?_; clear hS; intro b1 w hS
 refine sv (yAsg rfl) <| sv (yAsg rfl) <| sv (yAsg rfl) <| nil <| cwQ <| seq <| region <| sv (yFn (.cons rfl .nil)) <| sv (yBuild zeroValue194 rfl pl194 (.cons rfl rfl (.cons rfl rfl .nil)) rfl) ?_
 refine sv (yFn (.cons rfl .nil)) <| sv (yBuild zeroValue194 rfl pl194 (.cons rfl rfl (.cons rfl rfl .nil)) rfl) ?_
 refine sbslice hS underlying224 sizeOf194 rfl zeroValue194 rfl (.cons rfl rfl (.cons rfl rfl .nil)) rfl ?_; clear hS; intro b15 w hS
 refine scV hS call145 (.cons rfl .nil) (c_first (rs := [⟨156, [ptQ b1], 6, !isName g.name⟩, ⟨157, [ptQ b1], 7, outB g.err 0 5000 || outB g.rate 0 5000⟩]) (hS.at _) ⟨call156, fun w e => c_CheckGauge1 (e.get (hS.at b1)) hnm, fun _ => ⟨call157, fun w e => c_CheckGauge2 (e.get (hS.at b1)), fun _ => trivial⟩⟩ (Nat.le_of_ble_eq_true rfl) (gErr_eq g _ _ _ _)) ?_; clear hS; intro w hS
 refine sv (yAsg rfl) <| nil <| cwQ <| seq <| block <| seq <| region <| sv (yMove rfl) <| sv (yNeq rfl rfl) ?_
 refine sv (yAsg rfl) <| nil <| cwQ ?_
 refine cond rfl (fun c17 => ?_) (fun c17 => ?_)
 ·
  simp only [BS, ne_eq] at c17
  refine seq <| region <| sv (yMove rfl) <| sv (yAsg rfl) <| sv (yAsg rfl) <| sv (yAsg rfl) <| nil <| cwQ ?_
  have hfin : checkG g = (1, 0, gErr g) := by unfold checkG; rw [if_pos c17]
  refine wp_ret (blockR (thenR ?_))
  exact retV (res3 rfl (fstI hfin) (thd1I hfin) (thd2I hfin)) hS.ext
 ·
  simp only [BS, ne_eq] at c17
  refine seq <| region <| sv (fa68_3 rfl) <| sv (yLdB rfl isAgg65 (hS.at _) rfl) <| sv (yLen rfl underlying65) ?_
  refine scV hS call72 (.cons rfl (.cons rfl (.cons rfl .nil))) c_out ?_; clear hS; intro w hS
  refine sv (yAsg rfl) <| nil <| cwQ ?_
  refine cond rfl (fun c21 => ?_) (fun c21 => ?_)
  ·
   refine seq <| region <| sv (yAsg rfl) <| sv (yAsg rfl) <| sv (yAsg rfl) <| nil <| cwQ ?_
   have hfin : checkG g = (2, 0, 3) := by unfold checkG; rw [if_neg (fun h => h c17), if_pos c21]
   refine wp_ret (blockR (thenR ?_))
   exact retV (res3 rfl (fstI hfin) (thd1I hfin) (thd2I hfin)) hS.ext
  ·
   refine skip <| cwQ <| seq <| region <| sv (yAsg rfl) <| nil <| cwQ <| seq <| seq ?_
   refine region <| sv (fa68_3 rfl) <| sv (yLdB rfl isAgg65 (hS.at _) rfl) <| sv (yLen rfl underlying65) <| sv (yMove rfl) <| nil <| cwQ <| block ?_
   refine loop (fun f w zz => ∃ (k : Nat) (bef : Int), f 1 = ptQ b1 ∧ f 5 = .int .i64 bef ∧ f 27 = .slice a g.datums.length cap ∧ f 28 = .int .i64 (g.datums.length : Int) ∧ f 29 = .int .i64 (k : Int) ∧ StX [] w0 w [blk b1 [.string g.name, .int .i64 g.err, .int .i64 g.rate, .slice a g.datums.length cap, .slice a2 g.readings.length cap2] 68] ∧ (k ≤ g.datums.length) ∧ (Bd bef (-1) 200000) ∧ (checkG g = checkD (checkRs g) (g.datums.drop k) bef k) ∧ zz = g.datums.length - k) _ ⟨_, rfl, 0, -1, rfl, rfl, rfl, rfl, rfl, (hS.sub (.cons _ (.cons_cons _ (List.nil_sublist _)))), (Nat.zero_le _), (by omega), (by unfold checkG; rw [if_neg (fun h => h c17), if_neg (by rw [c21]; decide)]; rfl), rfl⟩ ?_
   clear hS
   rintro f w _ ⟨k, bef, h1, h5, h27, h28, h29, hS, hk, hb, hI, rfl⟩
   refine seq <| region <| sv (yLss h29 h28) <| nil <| cwQ <| seq ?_
   refine cond rfl (fun c30 => ?_) (fun c30 => ?_)
   ·
    simp only [BS, ne_eq] at c30
    refine skip <| cwQ <| seq <| block <| seq <| region ?_
    obtain ⟨d, hx, hd⟩ := drop_of (l := g.datums) (k := k) (by omega)
    obtain ⟨b, o, cs, ha, hlen, hcs, hR⟩ := hel (k) (by omega)
    obtain rfl : d = g.datums[k] := (List.getElem?_eq_some_iff.1 hx).2.symm
    generalize g.datums[k] = d at hx hd hR
    obtain ⟨rfl, hd1, hd2, hd3⟩ := hR
    refine sv (yMove h29) <| sv (yIxQ h27 ha h29 runUnderlying65 sizeOf205) <| sv (yLdA rfl isAgg205 sizeOf205 (hcs.ext hS.ext) rfl) ?_
    refine salloc hS zeroValue205 rfl ?_; clear hS; intro b7 w hS
    refine sv (yAsg rfl) ?_
    refine sst hS rfl rfl sizeOf205 rfl rfl rfl rfl ?_; clear hS; intro w hS
    refine nil <| cwQ <| seq <| region <| sv (fa205_1 rfl) <| sv (yLdBA rfl isAgg74 sizeOf74 (hS.at _) rfl rfl) ?_
    refine salloc hS zeroValue74 rfl ?_; clear hS; intro b8 w hS
    refine sst hS rfl rfl sizeOf74 rfl rfl rfl rfl ?_; clear hS; intro w hS
    refine nil <| cwQ <| seq <| seq <| region <| sv (fa205_0 rfl) <| sv (yLdB rfl isAgg3 (hS.at _) rfl) <| sv (yMove h5) <| sv (yAdd rfl rfl ⟨by omega, by omega⟩) ?_
    refine scV hS call72 (.cons rfl (.cons rfl (.cons rfl .nil))) c_out ?_; clear hS; intro w hS
    refine sv (yMove rfl) ?_
    refine sg rfl rfl rfl (fun g => (yMove rfl)) (fun v42 g42 => ?_)
    refine sg rfl rfl rfl (fun g => (yEql (g42.1 g) rfl)) (fun v43 g43 => ?_)
    refine sg rfl rfl rfl (fun g => (yMove (g43.1 g))) (fun v44 g44 => ?_)
    refine sgg rfl rfl g44 (fun g => (fa205_0 rfl)) (fun v45 g45 => ?_)
    refine sgg rfl rfl g44 (fun g => (yLdB (g45.1 g) isAgg3 (hS.at _) rfl)) (fun v46 g46 => ?_)
    refine sgg rfl rfl g44 (fun g => (yGtr (g46.1 g) rfl)) (fun v47 g47 => ?_)
    refine sg rfl rfl rfl (fun g => (yAnd (g44.1 g) (fun hB => (g47.1 ⟨g, hB⟩)) rfl)) (fun v48 g48 => ?_)
    refine sv (yOr rfl rfl (fun hB => (g48.1 hB))) <| sv (yMove rfl) ?_
    refine sg rfl rfl rfl (fun g => (fa74_1 rfl)) (fun v51 g51 => ?_)
    refine sg rfl rfl rfl (fun g => (yLdB (g51.1 g) isAgg3 (hS.at _) rfl)) (fun v52 g52 => ?_)
    refine sgc hS rfl rfl rfl call72 (fun g => (.cons (g52.1 g) (.cons rfl (.cons rfl .nil)))) (fun g => c_out) ?_; clear hS; intro v53 w hS g53
    refine sv (yOr rfl rfl (fun hB => (g53.1 hB))) <| sv (yMove rfl) ?_
    refine sg rfl rfl rfl (fun g => (fa74_0 rfl)) (fun v56 g56 => ?_)
    refine sg rfl rfl rfl (fun g => (yLdB (g56.1 g) isAgg3 (hS.at _) rfl)) (fun v57 g57 => ?_)
    refine sg rfl rfl rfl (fun g => (fa74_1 rfl)) (fun v58 g58 => ?_)
    refine sg rfl rfl rfl (fun g => (yLdB (g58.1 g) isAgg3 (hS.at _) rfl)) (fun v59 g59 => ?_)
    refine sgc hS rfl rfl rfl call72 (fun g => (.cons (g57.1 g) (.cons rfl (.cons (g59.1 g) .nil)))) (fun g => c_out) ?_; clear hS; intro v60 w hS g60
    refine sv (yOr rfl rfl (fun hB => (g60.1 hB))) <| nil <| cwQ ?_
    refine cond rfl (fun c61 => ?_) (fun c61 => ?_)
    ·
     refine seq <| region <| sv (yMove rfl) <| sv (yAsg rfl) <| sv (yAsg rfl) <| sv (yAsg rfl) <| nil <| cwQ ?_
     have hfin : checkG g = (2, (k : Int), 7) := by rw [hI, hd, checkD, if_pos (show datBad bef k d = true from c61)]
     refine wp_ret (thenR (blockR (thenR (thenR (blockR (thenR ?_))))))
     exact retV (res3 rfl (fstI hfin) (thd1I hfin) (thd2I hfin)) hS.ext
    ·
     refine skip <| cwQ <| region <| sv (fa205_0 rfl) <| sv (yLdB rfl isAgg3 (hS.at _) rfl) <| sv (yAsg rfl) <| nil <| cwQ <| region ?_
     refine sv (yAdd h29 rfl ⟨by omega, by omega⟩) <| sv (yMove rfl) <| nil ?_
     exact ⟨_, _, rfl, ⟨k + 1, d.start, h1, rfl, h27, h28, rfl, (hS.sub (.cons _ (.cons _ lrQ))), (by omega), (by have := datBad_iff.1 c61; omega), (by rw [hI, hd, checkD, if_neg (by rw [show datBad bef k d = false from c61]; decide)]), rfl⟩, by omega⟩
   ·
    simp only [BS, ne_eq] at c30
    refine exit <| cwQ <| seq <| seq <| region <| sv (fa68_4 h1) <| sv (yLdB rfl isAgg66 (hS.at _) rfl) <| sv (yLen rfl underlying66) <| sv (yGtr rfl rfl) ?_
    refine nil <| cwQ ?_
    refine cond rfl (fun c69 => ?_) (fun c69 => ?_)
    ·
     simp only [BS, ne_eq] at c69
     obtain rfl : k = g.datums.length := by omega
     rw [List.drop_length, checkD] at hI
     unfold checkRs at hI
     refine seq <| region <| sv (yAsg rfl) <| sv (yAsg rfl) <| sv (yAsg rfl) <| nil <| cwQ ?_
     have hfin : checkG g = (3, 0, 3) := by rw [hI, if_pos c69]
     refine wp_ret (thenR ?_)
     exact retV (res3 rfl (fstI hfin) (thd1I hfin) (thd2I hfin)) hS.ext
    ·
     simp only [BS, ne_eq] at c69
     obtain rfl : k = g.datums.length := by omega
     rw [List.drop_length, checkD] at hI
     unfold checkRs at hI
     refine skip <| cwQ <| seq <| region <| sv (yAsg rfl) <| nil <| cwQ <| seq <| seq ?_
     refine region <| sv (fa68_4 h1) <| sv (yLdB rfl isAgg66 (hS.at _) rfl) <| sv (yLen rfl underlying66) <| sv (yMove rfl) <| nil <| cwQ <| block ?_
     refine loop (fun f w zz => ∃ (k : Nat) (bef : Int), f 5 = .int .i64 bef ∧ f 71 = .slice a2 g.readings.length cap2 ∧ f 72 = .int .i64 (g.readings.length : Int) ∧ f 73 = .int .i64 (k : Int) ∧ StX [] w0 w [] ∧ (k ≤ g.readings.length) ∧ (Bd bef (-1) 200000) ∧ (checkG g = checkR (g.readings.drop k) bef k) ∧ zz = g.readings.length - k) _ ⟨_, rfl, 0, -1, rfl, rfl, rfl, rfl, (hS.sub (List.nil_sublist _)), (Nat.zero_le _), (by omega), (by rw [hI, if_neg (by omega)]; rfl), rfl⟩ ?_
     clear hS
     rintro f w _ ⟨k, bef, h5, h71, h72, h73, hS, hk, hb, hI, rfl⟩
     refine seq <| region <| sv (yLss h73 h72) <| nil <| cwQ <| seq ?_
     refine cond rfl (fun c74 => ?_) (fun c74 => ?_)
     ·
      simp only [BS, ne_eq] at c74
      refine skip <| cwQ <| seq <| block <| seq <| region ?_
      obtain ⟨r, hx, hd⟩ := drop_of (l := g.readings) (k := k) (by omega)
      obtain ⟨b, o, cs, ha, hlen, hcs, hR⟩ := hel2 (k) (by omega)
      obtain rfl : r = g.readings[k] := (List.getElem?_eq_some_iff.1 hx).2.symm
      generalize g.readings[k] = r at hx hd hR
      obtain ⟨rfl, hr1, hr2⟩ := hR
      refine sv (yMove h73) <| sv (yIxQ h71 ha h73 runUnderlying66 sizeOf70) <| sv (yLdA rfl isAgg70 sizeOf70 (hcs.ext hS.ext) rfl) ?_
      refine salloc hS zeroValue70 rfl ?_; clear hS; intro b10 w hS
      refine sv (yAsg rfl) ?_
      refine sst hS rfl rfl sizeOf70 rfl rfl rfl rfl ?_; clear hS; intro w hS
      refine nil <| cwQ <| seq <| seq <| region <| sv (fa70_0 rfl) <| sv (yLdB rfl isAgg3 (hS.at _) rfl) <| sv (yMove h5) <| sv (yAdd rfl rfl ⟨by omega, by omega⟩) ?_
      refine scV hS call72 (.cons rfl (.cons rfl (.cons rfl .nil))) c_out ?_; clear hS; intro w hS
      refine sv (yMove rfl) ?_
      refine sg rfl rfl rfl (fun g => (fa70_1 rfl)) (fun v84 g84 => ?_)
      refine sg rfl rfl rfl (fun g => (yLdB (g84.1 g) isAgg3 (hS.at _) rfl)) (fun v85 g85 => ?_)
      refine sgc hS rfl rfl rfl call72 (fun g => (.cons (g85.1 g) (.cons rfl (.cons rfl .nil)))) (fun g => c_out) ?_; clear hS; intro v86 w hS g86
      refine sv (yOr rfl rfl (fun hB => (g86.1 hB))) <| nil <| cwQ ?_
      refine cond rfl (fun c87 => ?_) (fun c87 => ?_)
      ·
       refine seq <| region <| sv (yMove rfl) <| sv (yAsg rfl) <| sv (yAsg rfl) <| sv (yAsg rfl) <| nil <| cwQ ?_
       have hfin : checkG g = (3, (k : Int), 7) := by rw [hI, hd, checkR, if_pos (show readBad bef r = true from c87)]
       refine wp_ret (thenR (blockR (thenR (thenR (blockR (thenR ?_))))))
       exact retV (res3 rfl (fstI hfin) (thd1I hfin) (thd2I hfin)) hS.ext
      ·
       refine skip <| cwQ <| region <| sv (fa70_0 rfl) <| sv (yLdB rfl isAgg3 (hS.at _) rfl) <| sv (yAsg rfl) <| nil <| cwQ <| region ?_
       refine sv (yAdd h73 rfl ⟨by omega, by omega⟩) <| sv (yMove rfl) <| nil ?_
       exact ⟨_, _, rfl, ⟨k + 1, r.tick, rfl, h71, h72, rfl, (hS.sub (List.nil_sublist _)), (by omega), (by have := readBad_iff.1 c87; omega), (by rw [hI, hd, checkR, if_neg (by rw [show readBad bef r = false from c87]; decide)]), rfl⟩, by omega⟩
     ·
      simp only [BS, ne_eq] at c74
      refine exit <| cwQ <| seq <| region <| sv (yAsg rfl) <| sv (yAsg rfl) <| sv (yAsg rfl) <| nil <| cwQ ?_
      obtain rfl : k = g.readings.length := by omega
      have hfin : checkG g = (0, 0, 0) := by rw [hI, List.drop_length]; rfl
      refine wp_ret ?_
      exact retV (res3 rfl (fstI hfin) (thd1I hfin) (thd2I hfin)) hS.ext
theorem c_isNaN {a : Int} {w0 : World} : CV Tryz.prog 175 #[.int .i64 a] w0 (.bool false) := by
 refine enter func175 rfl ntmps175 rfl ?_
 have hS := St.start w0
 refine seq <| region <| sv (yAsg rfl) <| nil <| cwQ <| seq <| region <| sv (yMove rfl) <| sv (yMove rfl) ?_
 refine sv (yNeq rfl rfl) <| sv (yAsg rfl) <| nil <| cwQ <| wp_ret ?_
 exact retV (res1 rfl (eqB (by simp))) hS.ext
theorem c_Compare {a b : Int} {w0 : World} : CV Tryz.prog 138 #[.int .i64 a, .int .i64 b] w0 (.int .i64 (cmpI a b)) := by
 refine enter func138 rfl ntmps138 rfl ?_
 have hS := St.start w0
 refine seq <| region <| sv (yAsg rfl) <| nil <| cwQ <| seq <| region <| sv (yMove rfl) ?_
 refine scV hS call175 (.cons rfl .nil) c_isNaN ?_; clear hS; intro w hS
 refine sv (yAsg rfl) <| nil <| cwQ <| seq <| region <| sv (yMove rfl) ?_
 refine scV hS call175 (.cons rfl .nil) c_isNaN ?_; clear hS; intro w hS
 refine sv (yAsg rfl) <| nil <| cwQ <| seq <| seq <| region <| sv (yMove rfl) <| nil <| cwQ ?_
 refine cond rfl (fun c11 => ?_) (fun c11 => ?_)
 ·
  exact absurd c11 (by decide)
 ·
  refine skip <| cwQ <| seq <| seq <| region <| sv (yMove rfl) <| nil <| cwQ ?_
  refine cond rfl (fun c13 => ?_) (fun c13 => ?_)
  ·
   exact absurd c13 (by decide)
  ·
   refine skip <| cwQ <| seq <| seq <| region <| sv (yMove rfl) <| sv (yMove rfl) <| sv (yLss rfl rfl) <| nil ?_
   refine cwQ ?_
   refine cond rfl (fun c16 => ?_) (fun c16 => ?_)
   ·
    simp only [BS, ne_eq] at c16
    refine seq <| region <| sv (yAsg rfl) <| nil <| cwQ ?_
    refine wp_ret (thenR ?_)
    exact retV (res1 rfl (eqI (by unfold cmpI; rw [if_pos c16]))) hS.ext
   ·
    simp only [BS, ne_eq] at c16
    refine skip <| cwQ <| seq <| seq <| region <| sv (yMove rfl) <| sv (yMove rfl) <| sv (yGtr rfl rfl) <| nil ?_
    refine cwQ ?_
    refine cond rfl (fun c19 => ?_) (fun c19 => ?_)
    ·
     simp only [BS, ne_eq] at c19
     refine seq <| region <| sv (yAsg rfl) <| nil <| cwQ ?_
     refine wp_ret (thenR ?_)
     exact retV (res1 rfl (eqI (by unfold cmpI; rw [if_neg c16, if_pos c19]))) hS.ext
    ·
     simp only [BS, ne_eq] at c19
     refine skip <| cwQ <| seq <| region <| sv (yAsg rfl) <| nil <| cwQ <| wp_ret ?_
     exact retV (res1 rfl (eqI (by unfold cmpI; rw [if_neg c16, if_neg c19]))) hS.ext
theorem c_datum1 {d : Datum} {t : Int} {w0 : World} : CV Tryz.prog 203 #[.agg (datumC d).toArray, .int .i64 t] w0 (.int .i64 (cmpI d.start t)) := by
 refine enter func203 rfl ntmps203 rfl ?_
 have hS := St.start w0
 refine seq <| region ?_
 refine sbox hS rfl rfl ?_; clear hS; intro b2 w hS
 refine sv (yAsg rfl) <| nil <| cwQ <| seq <| region <| sv (fa205_0 rfl) <| sv (yLdB rfl isAgg3 (hS.at _) rfl) <| sv (yMove rfl) ?_
 refine scV hS call138 (.cons rfl (.cons rfl .nil)) c_Compare ?_; clear hS; intro w hS
 refine sv (yAsg rfl) <| nil <| cwQ <| wp_ret ?_
 exact retV (res1 rfl rfl) hS.ext
set_option maxHeartbeats 1000000 in
theorem c_SearchDatum {l : List Datum} {v : Value} {t : Int} {w0 : World} (hsl : Sl w0 3 RDatum v l) (hp : l.Pairwise fun a b => a.start < b.start) (hl : l.length ≤ 1000) : CE Tryz.prog 202 #[v, .int .i64 t, .func (.func 203) #[] #[]] w0 (fun v w' => ∃ i is, v = .tuple #[.int .i64 ((i : Nat) : Int), .bool is] ∧ searchD l t i is ∧ Ext w0 w') := by
 obtain ⟨a, cap, rfl, hcap, hmx, hel⟩ := id hsl
 refine enter func202 rfl ntmps202 rfl ?_
 have hS := St.start w0
 refine seq <| region <| sv (yAsg rfl) <| sv (yAsg rfl) <| nil <| cwQ <| seq <| region <| sv (yMove rfl) ?_
 refine sv (yLen rfl underlying65) <| sv (yAsg rfl) <| nil <| cwQ <| seq <| region <| sv (yMove rfl) <| sv (yAsg rfl) <| sv (yAsg rfl) ?_
 refine nil <| cwQ <| seq <| block ?_
 refine loop (fun f w zz => ∃ (i j : Nat), f 0 = .slice a l.length cap ∧ f 1 = .int .i64 t ∧ f 2 = .func (.func 203) #[] #[] ∧ f 8 = .int .i64 (l.length : Int) ∧ f 9 = .int .i64 (i : Int) ∧ f 10 = .int .i64 (j : Int) ∧ StX [] w0 w [] ∧ (i ≤ j ∧ j ≤ l.length) ∧ (∀ k d, l[k]? = some d → k < i → d.start < t) ∧ (∀ k d, l[k]? = some d → j ≤ k → t ≤ d.start) ∧ zz = j - i) _ ⟨_, rfl, 0, l.length, rfl, rfl, rfl, rfl, rfl, rfl, hS, (⟨Nat.zero_le _, Nat.le_refl _⟩), (fun k d _ h => absurd h (Nat.not_lt_zero k)), (fun k d h h2 => by rw [List.getElem?_eq_none h2] at h; cases h), rfl⟩ ?_
 clear hS
 rintro f w _ ⟨i, j, h0, h1, h2, h8, h9, h10, hS, hij, hlo, hhi, rfl⟩
 refine seq <| seq <| region <| sv (yMove h9) <| sv (yMove h10) <| sv (yLss rfl rfl) <| nil <| cwQ ?_
 refine cond rfl (fun c17 => ?_) (fun c17 => ?_)
 ·
  simp only [BS, ne_eq] at c17
  refine skip <| cwQ <| block <| seq <| region <| sv (yMove h9) <| sv (yMove h10) <| sv (yAdd rfl rfl ⟨by omega, by omega⟩) <| sv (yToU rfl underlying3 underlying218 ⟨by omega, by omega⟩) ?_
  refine sv (yShr1 rfl rfl) <| sv (Y.to (yToI rfl underlying218 underlying3 ⟨by omega, by omega⟩) (show Value.int .i64 (((i : Int) + (j : Int)) / 2) = .int .i64 (((i + j) / 2 : Nat) : Int) by congr 1)) <| sv (yAsg rfl) <| nil <| cwQ <| seq <| region ?_
  obtain ⟨d, hx, hd⟩ := drop_of (l := l) (k := (i + j) / 2) (by omega)
  obtain ⟨b, o, cs, ha, hlen, hcs, hR⟩ := hel ((i + j) / 2) (by omega)
  obtain rfl : d = l[(i + j) / 2] := (List.getElem?_eq_some_iff.1 hx).2.symm
  generalize l[(i + j) / 2] = d at hx hd hR
  obtain ⟨rfl, hd1, hd2, hd3⟩ := hR
  refine sv (yMove h2) <| sv (yMove h0) <| sv (yMove rfl) <| sv (yIxQ rfl ha rfl runUnderlying65 sizeOf205) <| sv (yLdA rfl isAgg205 sizeOf205 (hcs.ext hS.ext) rfl) <| sv (yMove h1) ?_
  refine scallf rfl call203 (.cons rfl (.cons rfl .nil)) c_datum1 ?_
  rintro _ w ⟨rfl, hE⟩; replace hS := hS.step hE; clear hE
  refine sv (yLss rfl rfl) <| nil <| cwQ ?_
  refine cond rfl (fun c31 => ?_) (fun c31 => ?_)
  ·
   simp only [BS, ne_eq, cmpI_lt] at c31
   refine region <| sv (yMove rfl) <| sv (yAdd rfl rfl ⟨by omega, by omega⟩) <| sv (yAsg rfl) <| nil ?_
   exact ⟨_, _, rfl, ⟨(i + j) / 2 + 1, j, h0, h1, h2, h8, rfl, h10, hS, (⟨by omega, by omega⟩), (fun k x hk hkm => by have := asc_le hp hk hx (by omega); omega), (hhi), rfl⟩, by omega⟩
  ·
   simp only [BS, ne_eq, cmpI_lt] at c31
   refine region <| sv (yMove rfl) <| sv (yAsg rfl) <| nil ?_
   exact ⟨_, _, rfl, ⟨i, (i + j) / 2, h0, h1, h2, h8, h9, rfl, hS, (⟨by omega, by omega⟩), (hlo), (fun k x hk hkm => by have := asc_le hp hx hk (by omega); omega), rfl⟩, by omega⟩
 ·
  simp only [BS, ne_eq] at c17
  refine exit <| cwQ <| seq <| region ?_
  obtain rfl : i = j := by omega
  obtain ⟨b, o, hk⟩ : ∃ b o, i < l.length → a = some ⟨b, o, none⟩ ∧ Cells w0 b (o + i * 3) (datumC (l.getD i ⟨0, ⟨0, 0⟩⟩)) := by
   by_cases hi : i < l.length
   ·
    obtain ⟨b, o, cs, ha, hlen, hcs, hR⟩ := hel i hi
    exact ⟨b, o, fun _ => ⟨ha, by rw [show l.getD i ⟨0, ⟨0, 0⟩⟩ = l[i] by simp [hi], ← hR.1]; exact hcs⟩⟩
   ·
    exact ⟨0, 0, fun h => absurd h hi⟩
  refine sv (yMove h9) <| sv (yMove h9) <| sv (yMove h8) <| sv (yLss rfl rfl) <| sv (yMove rfl) ?_
  refine sg rfl rfl rfl (fun g => (yMove h2)) (fun v40 g40 => ?_)
  refine sg rfl rfl rfl (fun g => (yMove h0)) (fun v41 g41 => ?_)
  refine sg rfl rfl rfl (fun g => (yMove h9)) (fun v42 g42 => ?_)
  refine sg rfl rfl rfl (fun g => (yIxa (g41.1 g) (hk (by have := of_decide_eq_true g; omega)).1 (g42.1 g) runUnderlying65 sizeOf205 (by omega) (of_decide_eq_true g))) (fun v43 g43 => ?_)
  refine sg rfl rfl rfl (fun g => (yLdA (g43.1 g) isAgg205 sizeOf205 ((hk (by have := of_decide_eq_true g; omega)).2.ext hS.ext) rfl)) (fun v44 g44 => ?_)
  refine sg rfl rfl rfl (fun g => (yMove h1)) (fun v45 g45 => ?_)
  refine sgcf hS rfl rfl rfl (fun g => (g40.1 g)) call203 (fun g => (.cons (g44.1 g) (.cons (g45.1 g) .nil))) (fun g => c_datum1) ?_; clear hS; intro v46 w hS g46
  refine sg rfl rfl rfl (fun g => (yEql (g46.1 g) rfl)) (fun v47 g47 => ?_)
  refine sv (yAnd rfl (fun hB => (g47.1 hB)) rfl) <| sv (yAsg rfl) <| sv (yAsg rfl) <| nil <| cwQ <| wp_ret <| retQ (res2 rfl rfl rfl) ?_
  refine ⟨i, _, rfl, ⟨hij.2, hlo, hhi, ?_⟩, hS.ext⟩
  simp only [Bool.and_eq_true, decide_eq_true_eq, cmpI_eq]
  constructor
  ·
   rintro ⟨h1, h2⟩
   have h1 : i < l.length := by omega
   exact ⟨l[i], by simp [h1], by simpa [h1] using h2⟩
  ·
   rintro ⟨d, h1, h2⟩
   have h3 := (List.getElem?_eq_some_iff.1 h1).1
   refine ⟨by omega, ?_⟩
   rw [List.getD_eq_getElem?_getD, h1]; exact h2
end Go.Proofs.YtgidbailiababaaGreatDoor

/- part Sk5 -/
namespace Go.Proofs.YtgidbailiababaaGreatDoor
open Go Bx Go.Proofs.Tryz
theorem c_datum {g : Gauge} {r : Reading} {cs : List Value} {w0 : World} (hg : RGauge w0 cs g) (hok : GaugeOk g) (hr : 0 ≤ r.tick) : CV Tryz.prog 186 #[.agg cs.toArray, .agg (readC r).toArray] w0 (.int .i64 (datI g.datums r.tick : Nat)) := by
 obtain ⟨dv, rv, rfl, hnm, hge, hgr, hsd, hsr⟩ := id hg
 obtain ⟨a, cap, rfl, hcap, hmx, hel⟩ := id hsd
 obtain ⟨a2, cap2, rfl, hcap2, hmx2, hel2⟩ := id hsr
 have hc := cntD_pos hok.len.1 hok.first hr
 have hl8 := hok.len.2
 refine enter func186 rfl ntmps186 rfl ?_
 have hS := St.start w0
 refine seq <| region ?_
 refine sbox hS rfl rfl ?_; clear hS; intro b2 w hS
 refine sbox hS rfl rfl ?_; clear hS; intro b3 w hS
 refine sv (yAsg rfl) <| nil <| cwQ <| seq <| region <| sv (fa68_3 rfl) <| sv (yLdB rfl isAgg65 (hS.at _) rfl) <| sv (fa70_0 rfl) <| sv (yLdB rfl isAgg3 (hS.at _) rfl) ?_
 refine scall call202 (.cons rfl (.cons rfl (.cons rfl .nil))) (c_SearchDatum (hsd.ext RDatum.stays hS.ext) hok.asc (by omega)) ?_
 rintro _ w ⟨i, is, rfl, hse, hE⟩; replace hS := hS.step hE; clear hE; have hse1 := hse.1
 refine sv (yMove rfl) <| sv (yExt rfl rfl) <| sv (yExt rfl rfl) <| sv (yAsg rfl) <| sv (yAsg rfl) <| nil <| cwQ <| seq <| seq ?_
 refine region <| sv (yMove rfl) <| nil <| cwQ ?_
 refine cond rfl (fun c15 => ?_) (fun c15 => ?_)
 ·
  refine seq <| region <| sv (yMove rfl) <| sv (yAsg rfl) <| nil <| cwQ ?_
  have hfin := searchD_datI hse hok.asc hc
  rw [if_pos c15] at hfin
  refine wp_ret (thenR ?_)
  exact retV (res1 rfl (eqI hfin.symm)) hS.ext
 ·
  refine skip <| cwQ <| seq <| region <| sv (yMove rfl) <| sv (ySub rfl rfl ⟨by omega, by omega⟩) <| sv (yAsg rfl) <| nil <| cwQ ?_
  have hfin := searchD_datI hse hok.asc hc
  rw [if_neg (by rw [c15]; decide)] at hfin
  refine wp_ret ?_
  exact retV (res1 rfl (eqI hfin.symm)) hS.ext
theorem c_around {v e : Int} {s : Span} {w0 : World} (hv : Bd v (-100000) 100000) (he : Bd e 0 2000000000) (hs : Bd s.lo (-100000) 100000 ∧ Bd s.hi (-100000) 100000) : CV Tryz.prog 185 #[.int .i64 v, .int .i64 e, .agg (spanC s).toArray] w0 (.agg (spanC (around v e s)).toArray) := by
 refine enter func185 rfl ntmps185 rfl ?_
 have hS := St.start w0
 refine seq <| region ?_
 refine sbox hS rfl rfl ?_; clear hS; intro b5 w hS
 refine salloc hS zeroValue74 rfl ?_; clear hS; intro b6 w hS
 refine nil <| cwQ <| seq <| region <| sv (yMove rfl) <| sv (yMove rfl) <| sv (ySub rfl rfl ⟨by omega, by omega⟩) <| sv (fa74_1 rfl) <| sv (yLdB rfl isAgg3 (hS.at _) rfl) ?_
 refine sv (ySub rfl rfl ⟨by omega, by omega⟩) <| sv (yMove rfl) <| sv (yMove rfl) <| sv (yAdd rfl rfl ⟨by omega, by omega⟩) <| sv (fa74_0 rfl) <| sv (yLdB rfl isAgg3 (hS.at _) rfl) <| sv (ySub rfl rfl ⟨by omega, by omega⟩) <| sv (yBuild zeroValue74 rfl pl74 (.cons rfl rfl (.cons rfl rfl .nil)) rfl) ?_
 refine sst hS rfl rfl sizeOf74 rfl rfl rfl rfl ?_; clear hS; intro w hS
 refine nil <| cwQ <| wp_ret ?_
 exact retV (resV1 rfl (rc rfl isAgg74 sizeOf74 (hS.at _) rfl rfl)) hS.ext
theorem c_empty {s : Span} {w0 : World} : CV Tryz.prog 187 #[.agg (spanC s).toArray] w0 (.bool (decide (s.hi < s.lo))) := by
 refine enter func187 rfl ntmps187 rfl ?_
 have hS := St.start w0
 refine seq <| region ?_
 refine sbox hS rfl rfl ?_; clear hS; intro b1 w hS
 refine sv (yAsg rfl) <| nil <| cwQ <| seq <| region <| sv (fa200_0 rfl) <| sv (fa74_0 rfl) <| sv (yLdB rfl isAgg3 (hS.at _) rfl) <| sv (fa200_0 rfl) ?_
 refine sv (fa74_1 rfl) <| sv (yLdB rfl isAgg3 (hS.at _) rfl) <| sv (yGtr rfl rfl) <| sv (yAsg rfl) <| nil <| cwQ <| wp_ret ?_
 exact retV (res1 rfl rfl) hS.ext
theorem c_whole {w0 : World} : CV Tryz.prog 183 #[] w0 (.agg (spanC ⟨-20000, 20000⟩).toArray) := by
 refine enter func183 rfl ntmps183 rfl ?_
 have hS := St.start w0
 refine seq <| region ?_
 refine salloc hS zeroValue200 rfl ?_; clear hS; intro b0 w hS
 refine nil <| cwQ <| seq <| region <| sv (yBuild zeroValue74 rfl pl74 (.cons rfl rfl (.cons rfl rfl .nil)) rfl) <| sv (yBuild zeroValue200 rfl pl200 (.cons rfl rfl .nil) rfl) ?_
 refine sst hS rfl rfl sizeOf200 rfl rfl rfl rfl ?_; clear hS; intro w hS
 refine nil <| cwQ <| wp_ret ?_
 exact retV (resV1 rfl (rc rfl isAgg200 sizeOf200 (hS.at _) rfl rfl)) hS.ext
theorem c_cut {b : Nat} {T : TypeId} {s x : Span} {w0 : World} (hb : w0.heap[b]? = some (.cells (spanC s).toArray T (0, 0))) : CE Tryz.prog 184 #[ptQ b, .agg (spanC x).toArray] w0 (fun v w' => v = .tuple #[] ∧ Put b (.cells (spanC (cutS s x)).toArray T (0, 0)) w0 w') := by
 refine enter func184 rfl ntmps184 rfl ?_
 have hS := StX.start1 (b := b) ⟨_, hb, rfl⟩
 refine seq <| region ?_
 refine sbox hS rfl rfl ?_; clear hS; intro b3 w hS
 refine nil <| cwQ ?_
 refine region_two mixed [0, 0, 0, 0, 0, 0, 1, 0, 2, 0, 0, 0, 2, 0, 1, 0, 2, 0, 0, 0, 0] 18 22 (fun w => StX [b] w0 w [blk b3 (spanC x) 74, blk b (spanC s) T]) (fun w => StX [b] w0 w [blk b3 (spanC x) 74]) (by kernel_rfl) (fun c a a' w h => by obtain ⟨_, v, hv, _⟩ := h; cases hv) hS (fun _ h => h) (fun _ h => h.sub (.cons_cons _ (List.nil_sublist _))) ?_
 clear hS; intro w hS
 refine hv0 (fun w => (yMove rfl)) <| hv0 (fun w => (yMove rfl)) <| hv0 (fun w => (yMove rfl)) <| hv0 (fun w => (yNil rfl)) <| hv0 (fun w => (fa200_0 rfl)) <| hv0 (fun w => (fa74_0 rfl)) <| hv1 (fun w hS => (yLdB rfl isAgg3 (hS.at _) rfl)) <| hv0 (fun w => (fa74_0 rfl)) <| hv2 (fun w hS => (yLdB rfl isAgg3 (hS.at _) rfl)) ?_
 refine hv0 (fun w => (yMax rfl rfl)) <| hv0 (fun w => (yMove rfl)) <| hv0 (fun w => (yNil rfl)) <| hv2 (fun w hS => (fa200_0 rfl)) <| hv0 (fun w => (fa74_1 rfl)) <| hv1 (fun w hS => (yLdB rfl isAgg3 (hS.at _) rfl)) <| hv0 (fun w => (fa74_1 rfl)) <| hv2 (fun w hS => (yLdB rfl isAgg3 (hS.at _) rfl)) <| hv0 (fun w => (yMin rfl rfl)) ?_
 refine hv0 (fun w => (yNil rfl)) <| hv0 (fun w => (fa200_0 rfl)) <| hv0 (fun w => (fa74_0 rfl)) <| hgnil ?_
 show wpR _ _ _ _ _ _ _ _ _ _ _ _
 refine r_step (i := 21) (is := []) (by kernel_rfl) ⟨?_, trivial⟩
 refine ⟨_, rfl, ?_⟩
 refine sst hS rfl rfl sizeOf3 rfl rfl rfl rfl ?_; clear hS; intro w hS
 refine nil ?_
 refine ⟨⟨fun h => absurd h (by decide), fun _ _ => hS.sub (.cons_cons _ (List.nil_sublist _))⟩, ?_⟩
 show wpR _ _ _ _ _ _ _ _ _ _ _ _
 refine r_step (i := 22) (is := []) (by kernel_rfl) ⟨?_, trivial⟩
 refine ⟨_, rfl, ?_⟩
 refine sv (yNil rfl) <| nil ?_
 refine ⟨⟨fun _ h => h, fun _ h => h⟩, ?_⟩
 show wpR _ _ _ _ _ _ _ _ _ _ _ _
 refine r_step (i := 23) (is := []) (by kernel_rfl) ⟨?_, trivial⟩
 refine ⟨_, rfl, ?_⟩
 refine sv (fa200_0 rfl) <| nil ?_
 refine ⟨⟨fun _ h => h, fun _ h => h⟩, ?_⟩
 show wpR _ _ _ _ _ _ _ _ _ _ _ _
 refine r_step (i := 24) (is := []) (by kernel_rfl) ⟨?_, trivial⟩
 refine ⟨_, rfl, ?_⟩
 refine sv (fa74_1 rfl) <| nil ?_
 refine ⟨⟨fun _ h => h, fun _ h => h⟩, ?_⟩
 show wpR _ _ _ _ _ _ _ _ _ _ _ _
 refine r_step (i := 25) (is := []) (by kernel_rfl) ⟨?_, trivial⟩
 refine ⟨_, rfl, ?_⟩
 refine sst hS rfl rfl sizeOf3 rfl rfl rfl rfl ?_; clear hS; intro w hS
 refine nil ?_
 refine ⟨⟨fun h => absurd h (by decide), fun h => absurd h (by decide)⟩, ?_⟩
 show wpR _ _ _ _ _ _ _ _ _ _ _ _
 refine r_end (by kernel_rfl) ?_
 show bodyPost _ _ _ .normal _ _
 refine retN (results_none rfl _ _ _) ?_
 exact ⟨rfl, hS.isPut⟩
set_option maxHeartbeats 1000000 in
theorem c_says {g : Gauge} {cs : List Value} {t now : Int} {w0 : World} (hg : RGauge w0 cs g) (hok : GaugeOk g) (ht : Bd t 0 200000) : CV Tryz.prog 172 #[.agg cs.toArray, .int .i64 t, .int .i64 now] w0 (.tuple #[.agg (spanC (saysG g t now).1).toArray, .int .i64 (saysG g t now).2]) := by
 obtain ⟨dv, rv, rfl, hnm, hge, hgr, hsd, hsr⟩ := id hg
 obtain ⟨a, cap, rfl, hcap, hmx, hel⟩ := id hsd
 obtain ⟨a2, cap2, rfl, hcap2, hmx2, hel2⟩ := id hsr
 have hrl := hok.rlen
 have hge := hok.err
 have hgr := hok.rate
 refine enter func172 rfl ntmps172 rfl ?_
 have hS := St.start w0
 refine seq <| region ?_
 refine sbox hS rfl rfl ?_; clear hS; intro b3 w hS
 refine salloc hS zeroValue74 rfl ?_; clear hS; intro b6 w hS
 refine sv (yAsg rfl) <| nil <| cwQ <| seq <| region ?_
 refine scV hS call183 .nil c_whole ?_; clear hS; intro w hS
 refine salloc hS zeroValue200 rfl ?_; clear hS; intro b8 w hS
 refine sst hS rfl rfl sizeOf200 rfl rfl rfl rfl ?_; clear hS; intro w hS
 refine sv (yAsg rfl) <| nil <| cwQ <| seq <| seq <| region <| sv (fa68_4 rfl) <| sv (yLdB rfl isAgg66 (hS.at _) rfl) <| sv (yLen rfl underlying66) ?_
 refine sv (yMove rfl) <| nil <| cwQ <| block <| loop (fun f w zz => ∃ (k : Nat) (e : Int), f 1 = .int .i64 t ∧ f 2 = .int .i64 now ∧ f 3 = ptQ b3 ∧ f 6 = ptQ b6 ∧ f 8 = ptQ b8 ∧ f 9 = .int .i64 e ∧ f 15 = .slice a2 g.readings.length cap2 ∧ f 16 = .int .i64 (g.readings.length : Int) ∧ f 17 = .int .i64 (k : Int) ∧ StX [] w0 w [blk b8 (spanC (cuts g t (g.readings.take k))) 200, blk b6 [.int .i64 0, .int .i64 0] 74, blk b3 [.string g.name, .int .i64 g.err, .int .i64 g.rate, .slice a g.datums.length cap, .slice a2 g.readings.length cap2] 68] ∧ (k ≤ g.readings.length) ∧ (e = if k = 0 then 4 else 0) ∧ (∀ x ∈ g.readings.take k, x.tick ≤ now) ∧ zz = g.readings.length - k) _ ⟨_, rfl, 0, 4, rfl, rfl, rfl, rfl, rfl, rfl, rfl, rfl, rfl, hS, (Nat.zero_le _), (rfl), (fun x hx => by cases hx), rfl⟩ ?_
 clear hS
 rintro f w _ ⟨k, e, h1, h2, h3, h6, h8, h9, h15, h16, h17, hS, hk, he, hle, rfl⟩
 refine seq <| region <| sv (yLss h17 h16) <| nil <| cwQ <| seq ?_
 refine cond rfl (fun c18 => ?_) (fun c18 => ?_)
 ·
  simp only [BS, ne_eq] at c18
  refine skip <| cwQ <| seq <| block <| seq <| region ?_
  obtain ⟨r, hx, hd⟩ := drop_of (l := g.readings) (k := k) (by omega)
  obtain ⟨b, o, cs, ha, hlen, hcs, hR⟩ := hel2 (k) (by omega)
  obtain rfl : r = g.readings[k] := (List.getElem?_eq_some_iff.1 hx).2.symm
  generalize g.readings[k] = r at hx hd hR
  obtain ⟨rfl, hr1, hr2⟩ := hR
  refine sv (yIxQ h15 ha h17 runUnderlying66 sizeOf70) <| sv (yLdA rfl isAgg70 sizeOf70 (hcs.ext hS.ext) rfl) ?_
  refine salloc hS zeroValue70 rfl ?_; clear hS; intro b11 w hS
  refine sst hS rfl rfl sizeOf70 rfl rfl rfl rfl ?_; clear hS; intro w hS
  refine nil <| cwQ <| seq <| seq <| region <| sv (fa70_0 rfl) <| sv (yLdB rfl isAgg3 (hS.at _) rfl) <| sv (yMove h2) <| sv (yGtr rfl rfl) ?_
  refine nil <| cwQ ?_
  refine cond rfl (fun c24 => ?_) (fun c24 => ?_)
  ·
   simp only [BS, ne_eq] at c24
   have hK := known_stop hok.rasc hx hle c24
   refine exit <| cwQ <| seq <| block <| seq <| region <| sv (yMove h9) <| sv (yNeq rfl rfl) <| sv (yAsg rfl) ?_
   refine nil <| cwQ ?_
   refine cond rfl (fun c54 => ?_) (fun c54 => ?_)
   ·
    simp only [BS, ne_eq] at c54
    refine seq <| region <| sv (yBuild zeroValue74 rfl pl74 .nil rfl) <| sv (yMove h9) ?_
    refine sst hS h6 rfl sizeOf74 rfl rfl rfl rfl ?_; clear hS; intro w hS
    refine sv (yAsg rfl) <| nil <| cwQ ?_
    have hk0 : k = 0 := Decidable.byContradiction fun h => c54 (by rw [he, if_neg h])
    subst hk0
    have hfin := saysG_none (t := t) hK
    refine wp_ret (blockR (thenR ?_))
    exact retV (resV2 rfl (rc h6 isAgg74 sizeOf74 (hS.at _) (by rw [hfin]; rfl) rfl) (rt (eqI (by rw [hfin, he]; rfl)))) hS.ext
   ·
    simp only [BS, ne_eq] at c54
    refine seq <| region <| sv (yLdBA h8 isAgg200 sizeOf200 (hS.at _) rfl rfl) ?_
    refine scV hS call187 (.cons rfl .nil) c_empty ?_; clear hS; intro w hS
    refine sv (yAsg rfl) <| nil <| cwQ ?_
    refine cond rfl (fun c59 => ?_) (fun c59 => ?_)
    ·
     simp only [BS, ne_eq] at c59
     refine seq <| region <| sv (yBuild zeroValue74 rfl pl74 .nil rfl) ?_
     refine sst hS h6 rfl sizeOf74 rfl rfl rfl rfl ?_; clear hS; intro w hS
     refine sv (yAsg rfl) <| nil <| cwQ ?_
     have hk0 : k ≠ 0 := fun h => by rw [he, if_pos h] at c54; exact absurd c54 (by decide)
     have hfin := saysG_down (t := t) hK (fun h => hk0 ((take_nil_iff hk).1 h)) c59
     refine wp_ret (blockR (thenR ?_))
     exact retV (resV2 rfl (rc h6 isAgg74 sizeOf74 (hS.at _) (by rw [hfin]; rfl) rfl) (rt (eqI (by rw [hfin])))) hS.ext
    ·
     simp only [BS, ne_eq] at c59
     refine skip <| cwQ <| seq <| region <| sv (fa200_0 h8) <| sv (yLdBA rfl isAgg74 sizeOf74 (hS.at _) rfl rfl) ?_
     refine sst hS h6 rfl sizeOf74 rfl rfl rfl rfl ?_; clear hS; intro w hS
     refine sv (yAsg rfl) <| nil <| cwQ ?_
     have hk0 : k ≠ 0 := fun h => by rw [he, if_pos h] at c54; exact absurd c54 (by decide)
     have hfin := saysG_ok (t := t) hK (fun h => hk0 ((take_nil_iff hk).1 h)) c59
     refine wp_ret ?_
     exact retV (resV2 rfl (rc h6 isAgg74 sizeOf74 (hS.at _) (by rw [hfin]; rfl) rfl) (rt (eqI (by rw [hfin])))) hS.ext
  ·
   simp only [BS, ne_eq] at c24
   have hro := hok.reads r (List.mem_of_getElem? hx)
   have hrt := hro.tick
   have hrv := hro.value
   have hfb := farR_bd hok ht hro
   have hmb : Bd (g.rate * max (t - r.tick) (r.tick - t)) 0 1000000000 := hfb
   refine skip <| cwQ <| seq <| region <| sv (fa68_2 h3) <| sv (yLdB rfl isAgg3 (hS.at _) rfl) <| sv (yMove h1) <| sv (fa70_0 rfl) <| sv (yLdB rfl isAgg3 (hS.at _) rfl) ?_
   refine sv (ySub rfl rfl ⟨by omega, by omega⟩) <| sv (fa70_0 rfl) <| sv (yLdB rfl isAgg3 (hS.at _) rfl) <| sv (yMove h1) <| sv (ySub rfl rfl ⟨by omega, by omega⟩) <| sv (yMax rfl rfl) <| sv (yMul rfl rfl ⟨by omega, by omega⟩) <| sv (yAsg rfl) <| nil ?_
   refine cwQ <| seq <| region_tail mixed 15 (by kernel_rfl) hS ?_
   obtain ⟨d, hxd, hds, hdok⟩ := datum_at hok hro.tick.1
   have hdl := datI_lt hok hro.tick.1
   obtain ⟨b1, o1, cs1, ha1, hlen1, hcs1, hR1⟩ := hel _ hdl
   obtain rfl : d = g.datums[datI g.datums r.tick] := (List.getElem?_eq_some_iff.1 hxd).2.symm
   generalize g.datums[datI g.datums r.tick] = d at hR1 hds hdok
   obtain ⟨rfl, _⟩ := hR1
   have hdb := hdok.shift
   refine qv (fun w hS => (fa70_1 rfl)) <| qv (fun w hS => (yLdB rfl isAgg3 (hS.at _) rfl)) <| qv (fun w hS => (fa68_1 h3)) <| qv (fun w hS => (yLdB rfl isAgg3 (hS.at _) rfl)) <| qv (fun w hS => (yMove rfl)) <| qv (fun w hS => (yAdd rfl rfl ⟨by omega, by omega⟩)) <| qv (fun w hS => (fa68_3 h3)) <| qv (fun w hS => (yLdB rfl isAgg65 (hS.at _) rfl)) <| qv (fun w hS => (yLdBA h3 isAgg68 sizeOf68 (hS.at _) rfl rfl)) ?_
   refine qv (fun w hS => (yLdBA rfl isAgg70 sizeOf70 (hS.at _) rfl rfl)) <| qcall call186 (.cons rfl (.cons rfl .nil)) (fun w hS => (c_datum (r := r) (hg.ext hS.ext) hok hro.tick.1)) <| qv (fun w hS => (yIxQ rfl ha1 rfl runUnderlying65 sizeOf205)) <| qv (fun w hS => (fa205_1 rfl)) <| qv (fun w hS => (yLdA rfl isAgg74 sizeOf74 ((hcs1.mid (xs := spanC d.shift) 1 rfl).ext hS.ext) rfl)) <| qcall call185 (.cons rfl (.cons rfl (.cons rfl .nil))) (fun w hS => (c_around (s := d.shift) ⟨by omega, by omega⟩ ⟨by omega, by omega⟩ ⟨⟨by omega, by omega⟩, ⟨by omega, by omega⟩⟩)) ?_
   clear hS; refine qtl (fun w hS => ?_)
   refine scall call184 (.cons h8 (.cons rfl .nil)) (c_cut (hS.at b8)) ?_; rintro _ w ⟨rfl, hput⟩; replace hS := hS.put hput; clear hput; rw [hds] at hS
   refine nil <| cwQ <| region <| sv (yAsg rfl) <| nil <| cwQ <| region <| sv (yAdd h17 rfl ⟨by omega, by omega⟩) <| sv (yMove rfl) ?_
   refine nil ?_
   exact ⟨_, _, rfl, ⟨k + 1, 0, h1, h2, h3, h6, h8, rfl, h15, h16, rfl, (by rw [take_snoc hx, cuts_snoc]; exact hS.sub (.cons _ lrQ)), (by omega), (rfl), (fun x hx' => by rw [take_snoc hx] at hx'; rcases List.mem_append.1 hx' with h | h; exact hle x h; rw [List.mem_singleton.1 h]; omega), rfl⟩, by omega⟩
 ·
  simp only [BS, ne_eq] at c18
  have hK : known g.readings now = g.readings.take k := by rw [List.take_of_length_le (by omega)] at hle ⊢; exact known_all hle
  refine exit <| cwQ <| seq <| block <| seq <| region <| sv (yMove h9) <| sv (yNeq rfl rfl) <| sv (yAsg rfl) ?_
  refine nil <| cwQ ?_
  refine cond rfl (fun c54 => ?_) (fun c54 => ?_)
  ·
   simp only [BS, ne_eq] at c54
   refine seq <| region <| sv (yBuild zeroValue74 rfl pl74 .nil rfl) <| sv (yMove h9) ?_
   refine sst hS h6 rfl sizeOf74 rfl rfl rfl rfl ?_; clear hS; intro w hS
   refine sv (yAsg rfl) <| nil <| cwQ ?_
   have hk0 : k = 0 := Decidable.byContradiction fun h => c54 (by rw [he, if_neg h])
   subst hk0
   have hfin := saysG_none (t := t) hK
   refine wp_ret (blockR (thenR ?_))
   exact retV (resV2 rfl (rc h6 isAgg74 sizeOf74 (hS.at _) (by rw [hfin]; rfl) rfl) (rt (eqI (by rw [hfin, he]; rfl)))) hS.ext
  ·
   simp only [BS, ne_eq] at c54
   refine seq <| region <| sv (yLdBA h8 isAgg200 sizeOf200 (hS.at _) rfl rfl) ?_
   refine scV hS call187 (.cons rfl .nil) c_empty ?_; clear hS; intro w hS
   refine sv (yAsg rfl) <| nil <| cwQ ?_
   refine cond rfl (fun c59 => ?_) (fun c59 => ?_)
   ·
    simp only [BS, ne_eq] at c59
    refine seq <| region <| sv (yBuild zeroValue74 rfl pl74 .nil rfl) ?_
    refine sst hS h6 rfl sizeOf74 rfl rfl rfl rfl ?_; clear hS; intro w hS
    refine sv (yAsg rfl) <| nil <| cwQ ?_
    have hk0 : k ≠ 0 := fun h => by rw [he, if_pos h] at c54; exact absurd c54 (by decide)
    have hfin := saysG_down (t := t) hK (fun h => hk0 ((take_nil_iff hk).1 h)) c59
    refine wp_ret (blockR (thenR ?_))
    exact retV (resV2 rfl (rc h6 isAgg74 sizeOf74 (hS.at _) (by rw [hfin]; rfl) rfl) (rt (eqI (by rw [hfin])))) hS.ext
   ·
    simp only [BS, ne_eq] at c59
    refine skip <| cwQ <| seq <| region <| sv (fa200_0 h8) <| sv (yLdBA rfl isAgg74 sizeOf74 (hS.at _) rfl rfl) ?_
    refine sst hS h6 rfl sizeOf74 rfl rfl rfl rfl ?_; clear hS; intro w hS
    refine sv (yAsg rfl) <| nil <| cwQ ?_
    have hk0 : k ≠ 0 := fun h => by rw [he, if_pos h] at c54; exact absurd c54 (by decide)
    have hfin := saysG_ok (t := t) hK (fun h => hk0 ((take_nil_iff hk).1 h)) c59
    refine wp_ret ?_
    exact retV (resV2 rfl (rc h6 isAgg74 sizeOf74 (hS.at _) (by rw [hfin]; rfl) rfl) (rt (eqI (by rw [hfin])))) hS.ext
end Go.Proofs.YtgidbailiababaaGreatDoor

/- part Sk6 -/
namespace Go.Proofs.YtgidbailiababaaGreatDoor
open Go Bx Go.Proofs.Tryz
set_option maxHeartbeats 2000000 in
theorem c_rCheckGauge {g : Gauge} {cs : List Value} {w0 : World} (hg : RGauge w0 cs g) : CV Tryz.prog 116 #[.agg cs.toArray] w0 (.tuple #[.int .i64 (checkG g).1, .int .i64 (checkG g).2.1, .int .i64 (checkG g).2.2]) := by
 obtain ⟨dv, rv, rfl, hnm, hge, hgr, hsd, hsr⟩ := id hg
 obtain ⟨a, cap, rfl, hcap, hmx, hel⟩ := id hsd
 obtain ⟨a2, cap2, rfl, hcap2, hmx2, hel2⟩ := id hsr
 refine enter func116 rfl ntmps116 rfl ?_
 have hS := St.start w0
 refine seq <| region ?_
 refine sbox hS rfl rfl ?_; clear hS; intro b1 w hS
 refine sv (yAsg rfl) <| sv (yAsg rfl) <| sv (yAsg rfl) <| nil <| cwQ <| seq <| seq <| region <| sv (fa68_0 rfl) ?_
 refine sv (yLdB rfl isAgg9 (hS.at _) rfl) ?_
 refine scV hS call117 (.cons rfl .nil) (c_rName hnm) ?_; clear hS; intro w hS
 refine sv (yNot rfl) <| nil <| cwQ ?_
 refine cond rfl (fun c13 => ?_) (fun c13 => ?_)
 ·
  refine seq <| region <| sv (yAsg rfl) <| sv (yAsg rfl) <| sv (yAsg rfl) <| nil <| cwQ ?_
  have hge0 : gErr g = 6 := by unfold gErr; rw [if_pos c13]
  have hfin : checkG g = (1, 0, gErr g) := by unfold checkG; rw [if_pos (by rw [hge0]; decide)]
  rw [hge0] at hfin
  refine wp_ret (thenR ?_)
  exact retV (res3 rfl (fstI hfin) (thd1I hfin) (thd2I hfin)) hS.ext
 ·
  refine skip <| cwQ <| seq <| seq <| region <| sv (fa68_1 rfl) <| sv (yLdB rfl isAgg3 (hS.at _) rfl) ?_
  refine scV hS call163 (.cons rfl (.cons rfl (.cons rfl .nil))) c_in ?_; clear hS; intro w hS
  refine sv (yNot rfl) <| sv (yMove rfl) ?_
  refine sg rfl rfl rfl (fun g => (fa68_2 rfl)) (fun v19 g19 => ?_)
  refine sg rfl rfl rfl (fun g => (yLdB (g19.1 g) isAgg3 (hS.at _) rfl)) (fun v20 g20 => ?_)
  refine sgc hS rfl rfl rfl call163 (fun g => (.cons (g20.1 g) (.cons rfl (.cons rfl .nil)))) (fun g => c_in) ?_; clear hS; intro v21 w hS g21
  refine sg rfl rfl rfl (fun g => (yNot (g21.1 g))) (fun v22 g22 => ?_)
  refine sv (yOr rfl rfl (fun hB => (g22.1 hB))) <| nil <| cwQ ?_
  refine cond rfl (fun c23 => ?_) (fun c23 => ?_)
  ·
   simp only [← outB_inB] at c23
   refine seq <| region <| sv (yAsg rfl) <| sv (yAsg rfl) <| sv (yAsg rfl) <| nil <| cwQ ?_
   have hge0 : gErr g = 7 := by unfold gErr; rw [if_neg (by rw [c13]; decide), if_pos c23]
   have hfin : checkG g = (1, 0, gErr g) := by unfold checkG; rw [if_pos (by rw [hge0]; decide)]
   rw [hge0] at hfin
   refine wp_ret (thenR ?_)
   exact retV (res3 rfl (fstI hfin) (thd1I hfin) (thd2I hfin)) hS.ext
  ·
   simp only [← outB_inB] at c23
   refine skip <| cwQ <| seq <| seq <| region <| sv (fa68_3 rfl) <| sv (yLdB rfl isAgg65 (hS.at _) rfl) <| sv (yLen rfl underlying65) ?_
   refine scV hS call163 (.cons rfl (.cons rfl (.cons rfl .nil))) c_in ?_; clear hS; intro w hS
   refine sv (yNot rfl) <| nil <| cwQ ?_
   refine cond rfl (fun c28 => ?_) (fun c28 => ?_)
   ·
    simp only [← outB_inB] at c28
    refine seq <| region <| sv (yAsg rfl) <| sv (yAsg rfl) <| sv (yAsg rfl) <| nil <| cwQ ?_
    have hfin : checkG g = (2, 0, 3) := by unfold checkG; rw [if_neg (fun h => h (by unfold gErr; rw [if_neg (by rw [c13]; decide), if_neg (by rw [c23]; decide)])), if_pos c28]
    refine wp_ret (thenR ?_)
    exact retV (res3 rfl (fstI hfin) (thd1I hfin) (thd2I hfin)) hS.ext
   ·
    simp only [← outB_inB] at c28
    have hge0 : gErr g = 0 := by unfold gErr; rw [if_neg (by rw [c13]; decide), if_neg (by rw [c23]; decide)]
    refine skip <| cwQ <| seq <| seq <| region <| sv (yAsg rfl) <| nil <| cwQ <| block ?_
    refine loop (fun f w zz => ∃ (k : Nat) (bef : Int), f 1 = ptQ b1 ∧ f 5 = .int .i64 (k : Int) ∧ StX [] w0 w [blk b1 [.string g.name, .int .i64 g.err, .int .i64 g.rate, .slice a g.datums.length cap, .slice a2 g.readings.length cap2] 68] ∧ (k ≤ g.datums.length) ∧ (Bd bef (-1) 200000) ∧ ((k = 0 ∧ bef = -1) ∨ ∃ p, 0 < k ∧ g.datums[k - 1]? = some p ∧ bef = p.start ∧ 0 ≤ bef) ∧ (checkG g = checkD (checkRs g) (g.datums.drop k) bef k) ∧ zz = g.datums.length - k) _ ⟨_, rfl, 0, -1, rfl, rfl, hS, (Nat.zero_le _), (by omega), (.inl ⟨rfl, rfl⟩), (by unfold checkG; rw [if_neg (fun h => h hge0), if_neg (by rw [c28]; decide)]; rfl), rfl⟩ ?_
    clear hS
    rintro f w _ ⟨k, bef, h1, h5, hS, hk, hb, hprev, hI, rfl⟩
    refine seq <| seq <| region <| sv (yMove h5) <| sv (fa68_3 h1) <| sv (yLdB rfl isAgg65 (hS.at _) rfl) <| sv (yLen rfl underlying65) <| sv (yLss rfl rfl) <| nil ?_
    refine cwQ ?_
    refine cond rfl (fun c33 => ?_) (fun c33 => ?_)
    ·
     simp only [BS, ne_eq] at c33
     obtain ⟨d, hx, hd⟩ := drop_of (l := g.datums) (k := k) (by omega)
     obtain ⟨b, o, cs, ha, hlen, hcs, hR⟩ := hel (k) (by omega)
     obtain rfl : d = g.datums[k] := (List.getElem?_eq_some_iff.1 hx).2.symm
     generalize g.datums[k] = d at hx hd hR
     obtain ⟨rfl, hd1, hd2, hd3⟩ := hR
     refine skip <| cwQ <| seq <| block <| seq <| region <| sv (fa68_3 h1) <| sv (yLdB rfl isAgg65 (hS.at _) rfl) <| sv (yMove h5) ?_
     refine sv (yIxQ rfl ha rfl runUnderlying65 sizeOf205) <| sv (yLdA rfl isAgg205 sizeOf205 (hcs.ext hS.ext) rfl) ?_
     refine salloc hS zeroValue205 rfl ?_; clear hS; intro b6 w hS
     refine sst hS rfl rfl sizeOf205 rfl rfl rfl rfl ?_; clear hS; intro w hS
     refine nil <| cwQ <| seq <| region <| sv (fa205_0 rfl) <| sv (yLdB rfl isAgg3 (hS.at _) rfl) ?_
     refine scV hS call165 (.cons rfl .nil) c_tick ?_; clear hS; intro w hS
     refine sv (yMove rfl) ?_
     refine sg rfl rfl rfl (fun g => (fa205_1 rfl)) (fun v45 g45 => ?_)
     refine sg rfl rfl rfl (fun g => (fa74_0 (g45.1 g))) (fun v46 g46 => ?_)
     refine sg rfl rfl rfl (fun g => (yLdB (g46.1 g) isAgg3 (hS.at _) rfl)) (fun v47 g47 => ?_)
     refine sg rfl rfl rfl (fun g => (fa205_1 rfl)) (fun v48 g48 => ?_)
     refine sg rfl rfl rfl (fun g => (fa74_1 (g48.1 g))) (fun v49 g49 => ?_)
     refine sg rfl rfl rfl (fun g => (yLdB (g49.1 g) isAgg3 (hS.at _) rfl)) (fun v50 g50 => ?_)
     refine sgc hS rfl rfl rfl call163 (fun g => (.cons (g47.1 g) (.cons rfl (.cons (g50.1 g) .nil)))) (fun g => c_in) ?_; clear hS; intro v51 w hS g51
     refine sv (yAnd rfl (fun hB => (g51.1 hB)) rfl) <| sv (yMove rfl) ?_
     refine sg rfl rfl rfl (fun g => (fa205_1 rfl)) (fun v54 g54 => ?_)
     refine sg rfl rfl rfl (fun g => (fa74_1 (g54.1 g))) (fun v55 g55 => ?_)
     refine sg rfl rfl rfl (fun g => (yLdB (g55.1 g) isAgg3 (hS.at _) rfl)) (fun v56 g56 => ?_)
     refine sg rfl rfl rfl (fun g => (yLeq (g56.1 g) rfl)) (fun v57 g57 => ?_)
     refine sv (yAnd rfl (fun hB => (g57.1 hB)) rfl) <| sv (yAsg rfl) <| nil <| cwQ <| seq <| seq <| region <| sv (yMove h5) <| sv (yEql rfl rfl) ?_
     refine nil <| cwQ ?_
     refine cond rfl (fun c60 => ?_) (fun c60 => ?_)
     ·
      simp only [BS, ne_eq] at c60
      obtain rfl : bef = -1 := by rcases hprev with h | ⟨p, h, _⟩; exact h.2; omega
      refine region <| sv (yMove rfl) <| sv (yMove rfl) ?_
      refine sg rfl rfl rfl (fun g => (fa205_0 rfl)) (fun v63 g63 => ?_)
      refine sg rfl rfl rfl (fun g => (yLdB (g63.1 g) isAgg3 (hS.at _) rfl)) (fun v64 g64 => ?_)
      refine sg rfl rfl rfl (fun g => (yEql (g64.1 g) rfl)) (fun v65 g65 => ?_)
      refine sv (yAnd rfl (fun hB => (g65.1 hB)) rfl) <| sv (yAsg rfl) <| nil <| cwQ <| seq <| region <| sv (yMove rfl) <| sv (yNot rfl) <| nil ?_
      refine cwQ ?_
      refine cond rfl (fun c81 => ?_) (fun c81 => ?_)
      ·
       have hbad := (dat0_eq c60).symm.trans c81
       refine seq <| region <| sv (yMove h5) <| sv (yAsg rfl) <| sv (yAsg rfl) <| sv (yAsg rfl) <| nil <| cwQ ?_
       have hfin : checkG g = (2, (k : Int), 7) := by rw [hI, hd, checkD, if_pos hbad]
       refine wp_ret (blockR (thenR (thenR (blockR (thenR ?_)))))
       exact retV (res3 rfl (fstI hfin) (thd1I hfin) (thd2I hfin)) hS.ext
      ·
       have hbad := (dat0_eq c60).symm.trans c81
       refine skip <| cwQ <| region <| sv (yMove h5) <| sv (yAdd rfl rfl ⟨by omega, by omega⟩) <| sv (yAsg rfl) <| nil ?_
       exact ⟨_, _, rfl, ⟨k + 1, d.start, h1, rfl, (hS.sub (.cons _ lrQ)), (by omega), (by have := datBad_iff.1 hbad; omega), (.inr ⟨d, by omega, hx, rfl, by have := datBad_iff.1 hbad; omega⟩), (by rw [hI, hd, checkD, if_neg (by rw [hbad]; decide)]), rfl⟩, by omega⟩
     ·
      simp only [BS, ne_eq] at c60
      obtain ⟨p, hk0, hp, rfl, hp0⟩ : ∃ p, 0 < k ∧ g.datums[k - 1]? = some p ∧ bef = p.start ∧ 0 ≤ bef := hprev.resolve_left (by omega)
      obtain ⟨b4, o4, cs4, ha4, hlen4, hcs4, hR4⟩ := hel (k - 1) (by omega)
      rw [(List.getElem?_eq_some_iff.1 hp).2] at hR4
      obtain ⟨rfl, _⟩ := hR4
      refine region_draw mixed (by kernel_rfl) hS <| qv (fun w hS => (yMove rfl)) <| qv (fun w hS => (yMove rfl)) ?_
      refine qg rfl rfl rfl (fun g w hS => (fa205_0 rfl)) (fun v69 g69 => ?_)
      refine qg rfl rfl rfl (fun g w hS => (yLdB (g69.1 g) isAgg3 (hS.at _) rfl)) (fun v70 g70 => ?_)
      refine qg rfl rfl rfl (fun g w hS => (fa68_3 h1)) (fun v71 g71 => ?_)
      refine qg rfl rfl rfl (fun g w hS => (yLdB (g71.1 g) isAgg65 (hS.at _) rfl)) (fun v72 g72 => ?_)
      refine qg rfl rfl rfl (fun g w hS => (yMove h5)) (fun v73 g73 => ?_)
      refine qg rfl rfl rfl (fun g w hS => (Y.to (ySub (g73.1 g) rfl ⟨by omega, by omega⟩) (show Value.int .i64 ((k : Int) - 1) = .int .i64 ((k - 1 : Nat) : Int) by congr 1; omega))) (fun v74 g74 => ?_)
      refine qg rfl rfl rfl (fun g w hS => (yIxQ (g72.1 g) ha4 (g74.1 g) runUnderlying65 sizeOf205)) (fun v75 g75 => ?_)
      refine qg rfl rfl rfl (fun g w hS => (fa205_0 (g75.1 g))) (fun v76 g76 => ?_)
      refine qg rfl rfl rfl (fun g w hS => (yLd (g76.1 g) isAgg3 ((hcs4.ext hS.ext).at (j := 0) rfl))) (fun v77 g77 => ?_)
      refine qg rfl rfl rfl (fun g w hS => (yGtr (g70.1 g) (g77.1 g))) (fun v78 g78 => ?_)
      refine qv (fun w hS => (yAnd rfl (fun hB => (g78.1 hB)) rfl)) <| qv (fun w hS => (yAsg rfl)) ?_
      clear hS; refine qnil (fun w hS => ?_)
      refine cwQ <| seq <| region <| sv (yMove rfl) <| sv (yNot rfl) <| nil <| cwQ ?_
      refine cond rfl (fun c81 => ?_) (fun c81 => ?_)
      ·
       have hbad := (dat1_eq hp0 (show (k : Int) ≠ 0 by omega)).symm.trans c81
       refine seq <| region <| sv (yMove h5) <| sv (yAsg rfl) <| sv (yAsg rfl) <| sv (yAsg rfl) <| nil <| cwQ ?_
       have hfin : checkG g = (2, (k : Int), 7) := by rw [hI, hd, checkD, if_pos hbad]
       refine wp_ret (blockR (thenR (thenR (blockR (thenR ?_)))))
       exact retV (res3 rfl (fstI hfin) (thd1I hfin) (thd2I hfin)) hS.ext
      ·
       have hbad := (dat1_eq hp0 (show (k : Int) ≠ 0 by omega)).symm.trans c81
       refine skip <| cwQ <| region <| sv (yMove h5) <| sv (yAdd rfl rfl ⟨by omega, by omega⟩) <| sv (yAsg rfl) <| nil ?_
       exact ⟨_, _, rfl, ⟨k + 1, d.start, h1, rfl, (hS.sub (.cons _ lrQ)), (by omega), (by have := datBad_iff.1 hbad; omega), (.inr ⟨d, by omega, hx, rfl, by have := datBad_iff.1 hbad; omega⟩), (by rw [hI, hd, checkD, if_neg (by rw [hbad]; decide)]), rfl⟩, by omega⟩
    ·
     simp only [BS, ne_eq] at c33
     obtain rfl : k = g.datums.length := by omega
     rw [List.drop_length, checkD] at hI
     unfold checkRs at hI
     refine exit <| cwQ <| seq <| seq <| region <| sv (fa68_4 h1) <| sv (yLdB rfl isAgg66 (hS.at _) rfl) <| sv (yLen rfl underlying66) <| sv (yGtr rfl rfl) ?_
     refine nil <| cwQ ?_
     refine cond rfl (fun c86 => ?_) (fun c86 => ?_)
     ·
      simp only [BS, ne_eq] at c86
      refine seq <| region <| sv (yAsg rfl) <| sv (yAsg rfl) <| sv (yAsg rfl) <| nil <| cwQ ?_
      have hfin : checkG g = (3, 0, 3) := by rw [hI, if_pos c86]
      refine wp_ret (thenR ?_)
      exact retV (res3 rfl (fstI hfin) (thd1I hfin) (thd2I hfin)) hS.ext
     ·
      simp only [BS, ne_eq] at c86
      refine skip <| cwQ <| seq <| seq <| region <| sv (yAsg rfl) <| nil <| cwQ <| block ?_
      refine loop (fun f w zz => ∃ (k : Nat) (bef : Int), f 1 = ptQ b1 ∧ f 8 = .int .i64 (k : Int) ∧ StX [] w0 w [blk b1 [.string g.name, .int .i64 g.err, .int .i64 g.rate, .slice a g.datums.length cap, .slice a2 g.readings.length cap2] 68] ∧ (k ≤ g.readings.length) ∧ (Bd bef (-1) 200000) ∧ ((k = 0 ∧ bef = -1) ∨ ∃ p, 0 < k ∧ g.readings[k - 1]? = some p ∧ bef = p.tick ∧ 0 ≤ bef) ∧ (checkG g = checkR (g.readings.drop k) bef k) ∧ zz = g.readings.length - k) _ ⟨_, rfl, 0, -1, h1, rfl, hS, (Nat.zero_le _), (by omega), (.inl ⟨rfl, rfl⟩), (by rw [hI, if_neg (by omega)]; rfl), rfl⟩ ?_
      clear hS
      rintro f w _ ⟨k, bef, h1, h8, hS, hk, hb, hprev, hI, rfl⟩
      refine seq <| seq <| region <| sv (yMove h8) <| sv (fa68_4 h1) <| sv (yLdB rfl isAgg66 (hS.at _) rfl) <| sv (yLen rfl underlying66) <| sv (yLss rfl rfl) <| nil ?_
      refine cwQ ?_
      refine cond rfl (fun c91 => ?_) (fun c91 => ?_)
      ·
       simp only [BS, ne_eq] at c91
       obtain ⟨r, hx, hd⟩ := drop_of (l := g.readings) (k := k) (by omega)
       obtain ⟨b, o, cs, ha, hlen, hcs, hR⟩ := hel2 (k) (by omega)
       obtain rfl : r = g.readings[k] := (List.getElem?_eq_some_iff.1 hx).2.symm
       generalize g.readings[k] = r at hx hd hR
       obtain ⟨rfl, hr1, hr2⟩ := hR
       obtain ⟨b4, o4, p4, hp4⟩ : ∃ b o p, 0 < k → a2 = some ⟨b, o, none⟩ ∧ Cells w0 b (o + (k - 1) * 2) (readC p) ∧ bef = p.tick ∧ 0 ≤ bef := by
        rcases hprev with h | ⟨p, hk0, hp, hbe, hp0⟩
        ·
         exact ⟨0, 0, ⟨0, 0⟩, fun h0 => absurd h0 (by omega)⟩
        ·
         obtain ⟨b4, o4, cs4, ha4, hlen4, hcs4, hR4⟩ := hel2 (k - 1) (by omega)
         rw [(List.getElem?_eq_some_iff.1 hp).2] at hR4
         obtain ⟨rfl, _⟩ := hR4
         exact ⟨b4, o4, _, fun _ => ⟨ha4, hcs4, hbe, hp0⟩⟩
       refine skip <| cwQ <| seq <| block <| seq <| region <| sv (fa68_4 h1) <| sv (yLdB rfl isAgg66 (hS.at _) rfl) <| sv (yMove h8) ?_
       refine sv (yIxQ rfl ha rfl runUnderlying66 sizeOf70) <| sv (yLdA rfl isAgg70 sizeOf70 (hcs.ext hS.ext) rfl) ?_
       refine salloc hS zeroValue70 rfl ?_; clear hS; intro b9 w hS
       refine sst hS rfl rfl sizeOf70 rfl rfl rfl rfl ?_; clear hS; intro w hS
       refine nil <| cwQ <| seq <| region_draw mixed (by kernel_rfl) hS <| qv (fun w hS => (fa70_0 rfl)) <| qv (fun w hS => (yLdB rfl isAgg3 (hS.at _) rfl)) <| qcall call165 (.cons rfl .nil) (fun w hS => c_tick) <| qv (fun w hS => (yNot rfl)) <| qv (fun w hS => (yMove rfl)) ?_
       refine qg rfl rfl rfl (fun g w hS => (fa70_1 rfl)) (fun v104 g104 => ?_)
       refine qg rfl rfl rfl (fun g w hS => (yLdB (g104.1 g) isAgg3 (hS.at _) rfl)) (fun v105 g105 => ?_)
       refine qgc rfl rfl rfl call163 (fun g => (.cons (g105.1 g) (.cons rfl (.cons rfl .nil)))) (fun g w hS => c_in) (fun v106 g106 => ?_)
       refine qg rfl rfl rfl (fun g w hS => (yNot (g106.1 g))) (fun v107 g107 => ?_)
       refine qv (fun w hS => (yOr rfl rfl (fun hB => (g107.1 hB)))) <| qv (fun w hS => (yMove rfl)) ?_
       refine qg rfl rfl rfl (fun g w hS => (yMove h8)) (fun v110 g110 => ?_)
       refine qg rfl rfl rfl (fun g w hS => (yGtr (g110.1 g) rfl)) (fun v111 g111 => ?_)
       refine qg rfl rfl rfl (fun g w hS => (yMove (g111.1 g))) (fun v112 g112 => ?_)
       refine qgg rfl rfl g112 (fun g w hS => (fa70_0 rfl)) (fun v113 g113 => ?_)
       refine qgg rfl rfl g112 (fun g w hS => (yLdB (g113.1 g) isAgg3 (hS.at _) rfl)) (fun v114 g114 => ?_)
       refine qgg rfl rfl g112 (fun g w hS => (fa68_4 h1)) (fun v115 g115 => ?_)
       refine qgg rfl rfl g112 (fun g w hS => (yLdB (g115.1 g) isAgg66 (hS.at _) rfl)) (fun v116 g116 => ?_)
       refine qgg rfl rfl g112 (fun g w hS => (yMove h8)) (fun v117 g117 => ?_)
       refine qgg rfl rfl g112 (fun g w hS => (Y.to (ySub (g117.1 g) rfl ⟨by omega, by omega⟩) (show Value.int .i64 ((k : Int) - 1) = .int .i64 ((k - 1 : Nat) : Int) by have := of_decide_eq_true g.2; congr 1; omega))) (fun v118 g118 => ?_)
       refine qgg rfl rfl g112 (fun g w hS => (yIxQ (g116.1 g) (hp4 (by have := of_decide_eq_true g.2; omega)).1 (g118.1 g) runUnderlying66 sizeOf70)) (fun v119 g119 => ?_)
       refine qgg rfl rfl g112 (fun g w hS => (fa70_0 (g119.1 g))) (fun v120 g120 => ?_)
       refine qgg rfl rfl g112 (fun g w hS => (yLd (g120.1 g) isAgg3 (((hp4 (by have := of_decide_eq_true g.2; omega)).2.1.ext hS.ext).at (j := 0) rfl))) (fun v121 g121 => ?_)
       refine qgg rfl rfl g112 (fun g w hS => (yLeq (g114.1 g) (g121.1 g))) (fun v122 g122 => ?_)
       refine qg rfl rfl rfl (fun g w hS => (yAnd (g112.1 g) (fun hB => (g122.1 ⟨g, hB⟩)) rfl)) (fun v123 g123 => ?_)
       refine qv (fun w hS => (yOr rfl rfl (fun hB => (g123.1 hB)))) ?_
       clear hS; refine qnil (fun w hS => ?_)
       refine cwQ ?_
       refine cond rfl (fun c124 => ?_) (fun c124 => ?_)
       ·
        have hbad := (read_eq (fun h => (hp4 h).2.2) hprev).symm.trans c124
        refine seq <| region <| sv (yMove h8) <| sv (yAsg rfl) <| sv (yAsg rfl) <| sv (yAsg rfl) <| nil <| cwQ ?_
        have hfin : checkG g = (3, (k : Int), 7) := by rw [hI, hd, checkR, if_pos hbad]
        refine wp_ret (blockR (thenR (thenR (blockR (thenR ?_)))))
        exact retV (res3 rfl (fstI hfin) (thd1I hfin) (thd2I hfin)) hS.ext
       ·
        have hbad := (read_eq (fun h => (hp4 h).2.2) hprev).symm.trans c124
        refine skip <| cwQ <| region <| sv (yMove h8) <| sv (yAdd rfl rfl ⟨by omega, by omega⟩) <| sv (yAsg rfl) <| nil ?_
        exact ⟨_, _, rfl, ⟨k + 1, r.tick, h1, rfl, (hS.sub (.cons _ lrQ)), (by omega), (by have := readBad_iff.1 hbad; omega), (.inr ⟨r, by omega, hx, rfl, by have := readBad_iff.1 hbad; omega⟩), (by rw [hI, hd, checkR, if_neg (by rw [hbad]; decide)]), rfl⟩, by omega⟩
      ·
       simp only [BS, ne_eq] at c91
       obtain rfl : k = g.readings.length := by omega
       refine exit <| cwQ <| seq <| region <| sv (yAsg rfl) <| sv (yAsg rfl) <| sv (yAsg rfl) <| nil <| cwQ ?_
       have hfin : checkG g = (0, 0, 0) := by rw [hI, List.drop_length]; rfl
       refine wp_ret ?_
       exact retV (res3 rfl (fstI hfin) (thd1I hfin) (thd2I hfin)) hS.ext
end Go.Proofs.YtgidbailiababaaGreatDoor

/- part Sk7 -/
namespace Go.Proofs.YtgidbailiababaaGreatDoor
open Go Bx Go.Proofs.Tryz
theorem c_rdatum {g : Gauge} {r : Reading} {cs : List Value} {w0 : World} (hg : RGauge w0 cs g) (hok : GaugeOk g) (hr : 0 ≤ r.tick) : CV Tryz.prog 209 #[.agg cs.toArray, .agg (readC r).toArray] w0 (.int .i64 (datI g.datums r.tick : Nat)) := by
 obtain ⟨dv, rv, rfl, hnm, hge, hgr, hsd, hsr⟩ := id hg
 obtain ⟨a, cap, rfl, hcap, hmx, hel⟩ := id hsd
 obtain ⟨a2, cap2, rfl, hcap2, hmx2, hel2⟩ := id hsr
 have hc := cntD_pos hok.len.1 hok.first hr
 have hl8 := hok.len.2
 have hcl := cntD_le g.datums r.tick
 refine enter func209 rfl ntmps209 rfl ?_
 have hS := St.start w0
 refine seq <| region ?_
 refine sbox hS rfl rfl ?_; clear hS; intro b2 w hS
 refine sbox hS rfl rfl ?_; clear hS; intro b3 w hS
 refine sv (yAsg rfl) <| nil <| cwQ <| seq <| region <| sv (yAsg rfl) <| nil <| cwQ <| seq ?_
 refine seq <| region <| sv (yAsg rfl) <| nil <| cwQ <| block <| loop (fun f w zz => ∃ (k out : Nat), f 2 = ptQ b2 ∧ f 3 = ptQ b3 ∧ f 5 = .int .i64 (out : Int) ∧ f 6 = .int .i64 (k : Int) ∧ StX [] w0 w [blk b3 (readC r) 70, blk b2 [.string g.name, .int .i64 g.err, .int .i64 g.rate, .slice a g.datums.length cap, .slice a2 g.readings.length cap2] 68] ∧ (k ≤ g.datums.length) ∧ (out = min k (cntD g.datums r.tick) - 1) ∧ zz = g.datums.length - k) _ ⟨_, rfl, 0, 0, rfl, rfl, rfl, rfl, hS, (Nat.zero_le _), (by omega), rfl⟩ ?_
 clear hS
 rintro f w _ ⟨k, out, h2, h3, h5, h6, hS, hk, ho, rfl⟩
 refine seq <| seq <| region <| sv (yMove h6) <| sv (fa68_3 h2) <| sv (yLdB rfl isAgg65 (hS.at _) rfl) <| sv (yLen rfl underlying65) <| sv (yLss rfl rfl) <| nil ?_
 refine cwQ ?_
 refine cond rfl (fun c11 => ?_) (fun c11 => ?_)
 ·
  simp only [BS, ne_eq] at c11
  obtain ⟨d, hx, hd⟩ := drop_of (l := g.datums) (k := k) (by omega)
  obtain ⟨b, o, cs, ha, hlen, hcs, hR⟩ := hel (k) (by omega)
  obtain rfl : d = g.datums[k] := (List.getElem?_eq_some_iff.1 hx).2.symm
  generalize g.datums[k] = d at hx hd hR
  obtain ⟨rfl, hd1, hd2, hd3⟩ := hR
  refine skip <| cwQ <| seq <| block <| seq <| region_draw mixed (by kernel_rfl) hS <| qv (fun w hS => (fa68_3 h2)) <| qv (fun w hS => (yLdB rfl isAgg65 (hS.at _) rfl)) <| qv (fun w hS => (yMove h6)) ?_
  refine qv (fun w hS => (yIxQ rfl ha rfl runUnderlying65 sizeOf205)) <| qv (fun w hS => (fa205_0 rfl)) <| qv (fun w hS => (yLd rfl isAgg3 ((hcs.ext hS.ext).at (j := 0) rfl))) <| qv (fun w hS => (fa70_0 h3)) <| qv (fun w hS => (yLdB rfl isAgg3 (hS.at _) rfl)) <| qv (fun w hS => (yLeq rfl rfl)) ?_
  clear hS; refine qnil (fun w hS => ?_)
  refine cwQ ?_
  refine cond rfl (fun c22 => ?_) (fun c22 => ?_)
  ·
   simp only [BS, ne_eq] at c22
   have hlt : k < cntD g.datums r.tick := Nat.lt_of_not_le fun h => by have := cntD_ge g.datums r.tick k d hok.asc hx h; omega
   refine region <| sv (yMove h6) <| sv (yAsg rfl) <| nil <| cwQ <| region <| sv (yMove h6) <| sv (yAdd rfl rfl ⟨by omega, by omega⟩) <| sv (yAsg rfl) ?_
   refine nil ?_
   exact ⟨_, _, rfl, ⟨k + 1, k, h2, h3, rfl, rfl, hS, (by omega), (by omega), rfl⟩, by omega⟩
  ·
   simp only [BS, ne_eq] at c22
   have hge2 : cntD g.datums r.tick ≤ k := Nat.le_of_not_lt fun h => by have := cntD_lt g.datums r.tick k d hx h; omega
   refine skip <| cwQ <| region <| sv (yMove h6) <| sv (yAdd rfl rfl ⟨by omega, by omega⟩) <| sv (yAsg rfl) <| nil ?_
   exact ⟨_, _, rfl, ⟨k + 1, out, h2, h3, h5, rfl, hS, (by omega), (by omega), rfl⟩, by omega⟩
 ·
  simp only [BS, ne_eq] at c11
  obtain rfl : k = g.datums.length := by omega
  refine exit <| cwQ <| seq <| region <| sv (yMove h5) <| sv (yAsg rfl) <| nil <| cwQ <| wp_ret ?_
  exact retV (res1 rfl (eqI (by unfold datI; omega))) hS.ext
set_option maxHeartbeats 2000000 in
theorem c_rsays {g : Gauge} {cs : List Value} {t now : Int} {w0 : World} (hg : RGauge w0 cs g) (hok : GaugeOk g) (ht : Bd t 0 200000) : CV Tryz.prog 200 #[.agg cs.toArray, .int .i64 t, .int .i64 now] w0 (.tuple #[.agg (spanC (saysG g t now).1).toArray, .int .i64 (saysG g t now).2]) := by
 obtain ⟨dv, rv, rfl, hnm, hge, hgr, hsd, hsr⟩ := id hg
 obtain ⟨a, cap, rfl, hcap, hmx, hel⟩ := id hsd
 obtain ⟨a2, cap2, rfl, hcap2, hmx2, hel2⟩ := id hsr
 have hrl := hok.rlen
 have hge := hok.err
 have hgr := hok.rate
 refine enter func200 rfl ntmps200 rfl ?_
 have hS := St.start w0
 refine seq <| region ?_
 refine sbox hS rfl rfl ?_; clear hS; intro b3 w hS
 refine salloc hS zeroValue74 rfl ?_; clear hS; intro b6 w hS
 refine sv (yAsg rfl) <| nil <| cwQ <| seq <| region <| sv (yBuild zeroValue74 rfl pl74 (.cons rfl rfl (.cons rfl rfl .nil)) rfl) ?_
 refine salloc hS zeroValue74 rfl ?_; clear hS; intro b8 w hS
 refine sst hS rfl rfl sizeOf74 rfl rfl rfl rfl ?_; clear hS; intro w hS
 refine nil <| cwQ <| seq <| region <| sv (yAsg rfl) <| nil <| cwQ <| seq <| seq ?_
 refine region <| sv (yAsg rfl) <| nil <| cwQ <| block <| loop (fun f w zz => ∃ (k : Nat) (A : Bool), f 1 = .int .i64 t ∧ f 2 = .int .i64 now ∧ f 3 = ptQ b3 ∧ f 6 = ptQ b6 ∧ f 8 = ptQ b8 ∧ f 9 = .bool A ∧ f 10 = .int .i64 (k : Int) ∧ StX [] w0 w [blk b8 (spanC (cuts g t (known (g.readings.take k) now))) 74, blk b6 [.int .i64 0, .int .i64 0] 74, blk b3 [.string g.name, .int .i64 g.err, .int .i64 g.rate, .slice a g.datums.length cap, .slice a2 g.readings.length cap2] 68] ∧ (k ≤ g.readings.length) ∧ (A = decide (known (g.readings.take k) now ≠ [])) ∧ zz = g.readings.length - k) _ ⟨_, rfl, 0, false, rfl, rfl, rfl, rfl, rfl, rfl, rfl, hS, (Nat.zero_le _), (rfl), rfl⟩ ?_
 clear hS
 rintro f w _ ⟨k, A, h1, h2, h3, h6, h8, h9, h10, hS, hk, hA, rfl⟩
 refine seq <| seq <| region <| sv (yMove h10) <| sv (fa68_4 h3) <| sv (yLdB rfl isAgg66 (hS.at _) rfl) <| sv (yLen rfl underlying66) <| sv (yLss rfl rfl) <| nil ?_
 refine cwQ ?_
 refine cond rfl (fun c19 => ?_) (fun c19 => ?_)
 ·
  simp only [BS, ne_eq] at c19
  obtain ⟨r, hx, hd⟩ := drop_of (l := g.readings) (k := k) (by omega)
  obtain ⟨b, o, cs, ha, hlen, hcs, hR⟩ := hel2 (k) (by omega)
  obtain rfl : r = g.readings[k] := (List.getElem?_eq_some_iff.1 hx).2.symm
  generalize g.readings[k] = r at hx hd hR
  obtain ⟨rfl, hr1, hr2⟩ := hR
  refine skip <| cwQ <| seq <| block <| seq <| region <| sv (fa68_4 h3) <| sv (yLdB rfl isAgg66 (hS.at _) rfl) <| sv (yMove h10) ?_
  refine sv (yIxQ rfl ha rfl runUnderlying66 sizeOf70) <| sv (yLdA rfl isAgg70 sizeOf70 (hcs.ext hS.ext) rfl) ?_
  refine salloc hS zeroValue70 rfl ?_; clear hS; intro b11 w hS
  refine sst hS rfl rfl sizeOf70 rfl rfl rfl rfl ?_; clear hS; intro w hS
  refine nil <| cwQ <| seq <| seq <| region <| sv (fa70_0 rfl) <| sv (yLdB rfl isAgg3 (hS.at _) rfl) <| sv (yMove h2) <| sv (yGtr rfl rfl) ?_
  refine nil <| cwQ ?_
  refine cond rfl (fun c30 => ?_) (fun c30 => ?_)
  ·
   simp only [BS, ne_eq] at c30
   refine exit <| cwQ <| region <| sv (yMove h10) <| sv (yAdd rfl rfl ⟨by omega, by omega⟩) <| sv (yAsg rfl) <| nil ?_
   exact ⟨_, _, rfl, ⟨k + 1, A, h1, h2, h3, h6, h8, h9, rfl, (by rw [known_snoc_out hx c30]; exact hS.sub (.cons _ lrQ)), (by omega), (by rw [known_snoc_out hx c30]; exact hA), rfl⟩, by omega⟩
  ·
   simp only [BS, ne_eq] at c30
   have hro := hok.reads r (List.mem_of_getElem? hx)
   have hrt := hro.tick
   have hrv := hro.value
   have hfb := farR_bd hok ht hro
   have hmb : Bd (g.rate * max (t - r.tick) (r.tick - t)) 0 1000000000 := hfb
   obtain ⟨d, hxd, hds, hdok⟩ := datum_at hok hro.tick.1
   have hdl := datI_lt hok hro.tick.1
   obtain ⟨b1, o1, cs1, ha1, hlen1, hcs1, hR1⟩ := hel _ hdl
   obtain rfl : d = g.datums[datI g.datums r.tick] := (List.getElem?_eq_some_iff.1 hxd).2.symm
   generalize g.datums[datI g.datums r.tick] = d at hR1 hds hdok
   obtain ⟨rfl, _⟩ := hR1
   have hdb := hdok.shift
   refine skip <| cwQ <| seq <| region <| sv (yAsg rfl) <| nil <| cwQ <| seq ?_
   refine region_m (fun w => StX [] w0 w [blk b11 (readC r) 70, blk b8 (spanC (cuts g t (known (g.readings.take k) now))) 74, blk b6 [.int .i64 0, .int .i64 0] 74, blk b3 [.string g.name, .int .i64 g.err, .int .i64 g.rate, .slice a g.datums.length cap, .slice a2 g.readings.length cap2] 68]) (fun _ => True) [] [] mixed (fun c a a' w h => by obtain ⟨_, v, hv, _⟩ := h; cases hv) hS ?_; clear hS; intro w hS
   refine mq 0 0 [] (by kernel_rfl) rfl trivial (fun w hS => (fa68_3 h3)) <| mq 1 1 [] (by kernel_rfl) rfl (sbQ hS) (fun w hS => (yLdB rfl isAgg65 (hS.at _) rfl)) <| mq 1 2 [] (by kernel_rfl) rfl (sbQ hS) (fun w hS => (yLdBA h3 isAgg68 sizeOf68 (hS.at _) rfl rfl)) <| mq 1 3 [] (by kernel_rfl) rfl (sbQ hS) (fun w hS => (yLdBA rfl isAgg70 sizeOf70 (hS.at _) rfl rfl)) ?_
   refine ms (i := 4) (is := [8]) (by kernel_rfl) ⟨⟨_, rfl, ?_⟩, ⟨_, rfl, ?_⟩, trivial⟩
   ·
    refine scV hS call209 (.cons rfl (.cons rfl .nil)) (c_rdatum (r := r) (hg.ext hS.ext) hok hro.tick.1) ?_; clear hS; intro w hS
    refine nil ⟨⟨fun _ _ => (sbQ hS), fun _ _ => trivial⟩, mw ?_⟩
    refine mq 0 5 [] (by kernel_rfl) rfl trivial (fun w hS => (yIxQ rfl ha1 rfl runUnderlying65 sizeOf205)) <| mq 0 6 [] (by kernel_rfl) rfl trivial (fun w hS => (fa205_1 rfl)) <| mq 1 7 [] (by kernel_rfl) rfl (sbQ hS) (fun w hS => (yLdA rfl isAgg74 sizeOf74 ((hcs1.mid (xs := spanC d.shift) 1 rfl).ext hS.ext) rfl)) <| m1 8 (by kernel_rfl) rfl ?_
    refine salloc hS zeroValue74 rfl ?_; clear hS; intro b12 w hS
    refine nil ⟨⟨fun _ _ => (sbQ hS), fun _ _ => trivial⟩, mw ?_⟩
    refine m1 9 (by kernel_rfl) rfl ?_
    refine sst hS rfl rfl sizeOf74 rfl rfl rfl rfl ?_; clear hS; intro w hS
    refine nil ⟨⟨fun _ _ => (sbQ hS), fun _ _ => trivial⟩, mw ?_⟩
    refine me (by kernel_rfl) <| cwQ <| seq <| region <| sv (fa68_2 h3) <| sv (yLdB rfl isAgg3 (hS.at _) rfl) <| sv (yMove h1) <| sv (fa70_0 rfl) <| sv (yLdB rfl isAgg3 (hS.at _) rfl) ?_
    refine sv (ySub rfl rfl ⟨by omega, by omega⟩) <| sv (fa70_0 rfl) <| sv (yLdB rfl isAgg3 (hS.at _) rfl) <| sv (yMove h1) <| sv (ySub rfl rfl ⟨by omega, by omega⟩) <| sv (yMax rfl rfl) <| sv (yMul rfl rfl ⟨by omega, by omega⟩) <| sv (yAsg rfl) <| nil ?_
    refine cwQ <| seq <| region <| sv (fa74_0 h8) <| sv (yLdB rfl isAgg3 (hS.at _) rfl) <| sv (fa70_1 rfl) <| sv (yLdB rfl isAgg3 (hS.at _) rfl) <| sv (fa68_1 h3) <| sv (yLdB rfl isAgg3 (hS.at _) rfl) ?_
    refine sv (ySub rfl rfl ⟨by omega, by omega⟩) <| sv (fa74_1 rfl) <| sv (yLdB rfl isAgg3 (hS.at _) rfl) <| sv (ySub rfl rfl ⟨by omega, by omega⟩) <| sv (yMove rfl) <| sv (Y.to (ySub rfl rfl ⟨by omega, by omega⟩) (congrArg _ (read_lo hds))) <| sv (yMax rfl rfl) <| sv (fa74_0 h8) ?_
    refine sst hS rfl rfl sizeOf3 rfl rfl rfl rfl ?_; clear hS; intro w hS
    refine nil <| cwQ <| region <| sv (fa74_1 h8) <| sv (yLdB rfl isAgg3 (hS.at _) rfl) <| sv (fa70_1 rfl) <| sv (yLdB rfl isAgg3 (hS.at _) rfl) <| sv (fa68_1 h3) <| sv (yLdB rfl isAgg3 (hS.at _) rfl) ?_
    refine sv (yAdd rfl rfl ⟨by omega, by omega⟩) <| sv (fa74_0 rfl) <| sv (yLdB rfl isAgg3 (hS.at _) rfl) <| sv (ySub rfl rfl ⟨by omega, by omega⟩) <| sv (yMove rfl) <| sv (Y.to (yAdd rfl rfl ⟨by omega, by omega⟩) (congrArg _ (read_hi hds))) <| sv (yMin rfl rfl) <| sv (fa74_1 h8) ?_
    refine sst hS rfl rfl sizeOf3 rfl rfl rfl rfl ?_; clear hS; intro w hS
    refine nil <| cwQ <| region <| sv (yMove h10) <| sv (yAdd rfl rfl ⟨by omega, by omega⟩) <| sv (yAsg rfl) <| nil ?_
    exact ⟨_, _, rfl, ⟨k + 1, true, h1, h2, h3, h6, h8, rfl, rfl, (by rw [known_snoc_in hx (by omega), cuts_snoc]; exact hS.sub (.cons _ (.cons _ lrQ))), (by omega), (by rw [known_snoc_in hx (by omega)]; simp), rfl⟩, by omega⟩
   ·
    refine salloc hS zeroValue74 rfl ?_; clear hS; intro b12 w hS
    refine nil ⟨⟨fun _ _ => (sbQ hS), fun _ _ => trivial⟩, mw ?_⟩
    refine m1 4 (by kernel_rfl) rfl ?_
    refine scV hS call209 (.cons rfl (.cons rfl .nil)) (c_rdatum (r := r) (hg.ext hS.ext) hok hro.tick.1) ?_; clear hS; intro w hS
    refine nil ⟨⟨fun _ _ => (sbQ hS), fun _ _ => trivial⟩, mw ?_⟩
    refine mq 0 5 [] (by kernel_rfl) rfl trivial (fun w hS => (yIxQ rfl ha1 rfl runUnderlying65 sizeOf205)) <| mq 0 6 [] (by kernel_rfl) rfl trivial (fun w hS => (fa205_1 rfl)) <| mq 1 7 [] (by kernel_rfl) rfl (sbQ hS) (fun w hS => (yLdA rfl isAgg74 sizeOf74 ((hcs1.mid (xs := spanC d.shift) 1 rfl).ext hS.ext) rfl)) <| m1 9 (by kernel_rfl) rfl ?_
    refine sst hS rfl rfl sizeOf74 rfl rfl rfl rfl ?_; clear hS; intro w hS
    refine nil ⟨⟨fun _ _ => (sbQ hS), fun _ _ => trivial⟩, mw ?_⟩
    refine me (by kernel_rfl) <| cwQ <| seq <| region <| sv (fa68_2 h3) <| sv (yLdB rfl isAgg3 (hS.at _) rfl) <| sv (yMove h1) <| sv (fa70_0 rfl) <| sv (yLdB rfl isAgg3 (hS.at _) rfl) ?_
    refine sv (ySub rfl rfl ⟨by omega, by omega⟩) <| sv (fa70_0 rfl) <| sv (yLdB rfl isAgg3 (hS.at _) rfl) <| sv (yMove h1) <| sv (ySub rfl rfl ⟨by omega, by omega⟩) <| sv (yMax rfl rfl) <| sv (yMul rfl rfl ⟨by omega, by omega⟩) <| sv (yAsg rfl) <| nil ?_
    refine cwQ <| seq <| region <| sv (fa74_0 h8) <| sv (yLdB rfl isAgg3 (hS.at _) rfl) <| sv (fa70_1 rfl) <| sv (yLdB rfl isAgg3 (hS.at _) rfl) <| sv (fa68_1 h3) <| sv (yLdB rfl isAgg3 (hS.at _) rfl) ?_
    refine sv (ySub rfl rfl ⟨by omega, by omega⟩) <| sv (fa74_1 rfl) <| sv (yLdB rfl isAgg3 (hS.at _) rfl) <| sv (ySub rfl rfl ⟨by omega, by omega⟩) <| sv (yMove rfl) <| sv (Y.to (ySub rfl rfl ⟨by omega, by omega⟩) (congrArg _ (read_lo hds))) <| sv (yMax rfl rfl) <| sv (fa74_0 h8) ?_
    refine sst hS rfl rfl sizeOf3 rfl rfl rfl rfl ?_; clear hS; intro w hS
    refine nil <| cwQ <| region <| sv (fa74_1 h8) <| sv (yLdB rfl isAgg3 (hS.at _) rfl) <| sv (fa70_1 rfl) <| sv (yLdB rfl isAgg3 (hS.at _) rfl) <| sv (fa68_1 h3) <| sv (yLdB rfl isAgg3 (hS.at _) rfl) ?_
    refine sv (yAdd rfl rfl ⟨by omega, by omega⟩) <| sv (fa74_0 rfl) <| sv (yLdB rfl isAgg3 (hS.at _) rfl) <| sv (ySub rfl rfl ⟨by omega, by omega⟩) <| sv (yMove rfl) <| sv (Y.to (yAdd rfl rfl ⟨by omega, by omega⟩) (congrArg _ (read_hi hds))) <| sv (yMin rfl rfl) <| sv (fa74_1 h8) ?_
    refine sst hS rfl rfl sizeOf3 rfl rfl rfl rfl ?_; clear hS; intro w hS
    refine nil <| cwQ <| region <| sv (yMove h10) <| sv (yAdd rfl rfl ⟨by omega, by omega⟩) <| sv (yAsg rfl) <| nil ?_
    exact ⟨_, _, rfl, ⟨k + 1, true, h1, h2, h3, h6, h8, rfl, rfl, (by rw [known_snoc_in hx (by omega), cuts_snoc]; exact hS.sub (.cons _ (.cons _ lrQ))), (by omega), (by rw [known_snoc_in hx (by omega)]; simp), rfl⟩, by omega⟩
 ·
  simp only [BS, ne_eq] at c19
  obtain rfl : k = g.readings.length := by omega
  rw [List.take_length] at hA hS
  refine exit <| cwQ <| seq <| seq <| region <| sv (yMove h9) <| sv (yNot rfl) <| nil <| cwQ ?_
  refine cond rfl (fun c80 => ?_) (fun c80 => ?_)
  ·
   rw [hA] at c80
   simp only [BS, ne_eq] at c80
   refine seq <| region <| sv (yBuild zeroValue74 rfl pl74 .nil rfl) ?_
   refine sst hS h6 rfl sizeOf74 rfl rfl rfl rfl ?_; clear hS; intro w hS
   refine sv (yAsg rfl) <| nil <| cwQ ?_
   have hfin := saysG_none (t := t) c80
   refine wp_ret (thenR ?_)
   exact retV (resV2 rfl (rc h6 isAgg74 sizeOf74 (hS.at _) (by rw [hfin]; rfl) rfl) (rt (eqI (by rw [hfin])))) hS.ext
  ·
   rw [hA] at c80
   simp only [BS, ne_eq] at c80
   refine skip <| cwQ <| seq <| seq <| region <| sv (fa74_0 h8) <| sv (yLdB rfl isAgg3 (hS.at _) rfl) <| sv (fa74_1 h8) <| sv (yLdB rfl isAgg3 (hS.at _) rfl) ?_
   refine sv (yGtr rfl rfl) <| nil <| cwQ ?_
   refine cond rfl (fun c86 => ?_) (fun c86 => ?_)
   ·
    simp only [BS, ne_eq] at c86
    refine seq <| region <| sv (yBuild zeroValue74 rfl pl74 .nil rfl) ?_
    refine sst hS h6 rfl sizeOf74 rfl rfl rfl rfl ?_; clear hS; intro w hS
    refine sv (yAsg rfl) <| nil <| cwQ ?_
    have hfin := saysG_down (t := t) rfl c80 c86
    refine wp_ret (thenR ?_)
    exact retV (resV2 rfl (rc h6 isAgg74 sizeOf74 (hS.at _) (by rw [hfin]; rfl) rfl) (rt (eqI (by rw [hfin])))) hS.ext
   ·
    simp only [BS, ne_eq] at c86
    refine skip <| cwQ <| seq <| region <| sv (yLdBA h8 isAgg74 sizeOf74 (hS.at _) rfl rfl) ?_
    refine sst hS h6 rfl sizeOf74 rfl rfl rfl rfl ?_; clear hS; intro w hS
    refine sv (yAsg rfl) <| nil <| cwQ ?_
    have hfin := saysG_ok (t := t) rfl c80 c86
    refine wp_ret ?_
    exact retV (resV2 rfl (rc h6 isAgg74 sizeOf74 (hS.at _) (by rw [hfin]; rfl) rfl) (rt (eqI (by rw [hfin])))) hS.ext
end Go.Proofs.YtgidbailiababaaGreatDoor

/- part Sk8 -/
namespace Go.Proofs.YtgidbailiababaaGreatDoor
open Go Bx Go.Proofs.Tryz
set_option maxHeartbeats 1000000 in
theorem c_gauges {l : List Gauge} {v : Value} {t now : Int} {w0 : World} (hl : Sl w0 5 RGauge v l) (ht : I64 t) (hn : I64 now) : CV Tryz.prog 71 #[v, .int .i64 t, .int .i64 now] w0 (.int .i64 (gaugesE l t now)) := by
 obtain ⟨a, cap, rfl, hcap, hmx, hel⟩ := id hl
 refine enter func71 rfl ntmps71 rfl ?_
 have hS := St.start w0
 refine seq <| region <| sv (yAsg rfl) <| nil <| cwQ <| seq <| seq <| region <| sv (yMove rfl) ?_
 refine sv (yLen rfl underlying25) <| sv (yGtr rfl rfl) <| nil <| cwQ ?_
 refine cond rfl (fun c15 => ?_) (fun c15 => ?_)
 ·
  simp only [BS, ne_eq] at c15
  refine seq <| region <| sv (yAsg rfl) <| nil <| cwQ ?_
  have hfin : gaugesE l t now = 3 := by unfold gaugesE; rw [if_pos c15]
  refine wp_ret (thenR ?_)
  exact retV (res1 rfl (eqI hfin)) hS.ext
 ·
  simp only [BS, ne_eq] at c15
  refine skip <| cwQ <| seq <| region ?_
  refine smkmap Value.string hS ?_; clear hS; intro b16 w hS
  refine sv (yAsg rfl) <| nil <| cwQ <| seq <| seq <| region <| sv (yMove rfl) <| sv (yLen rfl underlying25) <| sv (yMove rfl) ?_
  refine nil <| cwQ <| block <| loop (fun f w zz => ∃ (k : Nat), f 0 = .slice a l.length cap ∧ f 1 = .int .i64 t ∧ f 2 = .int .i64 now ∧ f 7 = .map (some b16) ∧ f 17 = .slice a l.length cap ∧ f 18 = .int .i64 (l.length : Int) ∧ f 19 = .int .i64 (k : Int) ∧ StX [] w0 w [mapI b16 Value.string (seenM (uniq (namesG (l.take k))))] ∧ (k ≤ l.length) ∧ (gErrs l = gErrs (l.drop k)) ∧ zz = l.length - k) _ ⟨_, rfl, 0, rfl, rfl, rfl, rfl, rfl, rfl, rfl, hS, (Nat.zero_le _), (rfl), rfl⟩ ?_
  clear hS
  rintro f w _ ⟨k, h0, h1, h2, h7, h17, h18, h19, hS, hk, hI, rfl⟩
  refine seq <| region <| sv (yLss h19 h18) <| nil <| cwQ <| seq ?_
  refine cond rfl (fun c20 => ?_) (fun c20 => ?_)
  ·
   simp only [BS, ne_eq] at c20
   refine skip <| cwQ <| seq <| block <| seq <| region ?_
   obtain ⟨g, hx, hd⟩ := drop_of (l := l) (k := k) (by omega)
   obtain ⟨b, o, cs, ha, hlen, hcs, hR⟩ := hel (k) (by omega)
   obtain rfl : g = l[k] := (List.getElem?_eq_some_iff.1 hx).2.symm
   generalize l[k] = g at hx hd hR
   have hg := hR
   obtain ⟨dv, rv, hcse, hnm, hge, hgr, hsd, hsr⟩ := id hg
   subst hcse
   obtain ⟨a1, cap1, rfl, hcap1, hmx1, hel1⟩ := id hsd
   obtain ⟨a2, cap2, rfl, hcap2, hmx2, hel2⟩ := id hsr
   refine sv (yIxQ h17 ha h19 runUnderlying25 sizeOf68) <| sv (yLdA rfl isAgg68 sizeOf68 (hcs.ext hS.ext) rfl) ?_
   refine salloc hS zeroValue68 rfl ?_; clear hS; intro b9 w hS
   refine sst hS rfl rfl sizeOf68 rfl rfl rfl rfl ?_; clear hS; intro w hS
   refine nil <| cwQ <| seq <| seq <| region <| sv (yLdBA rfl isAgg68 sizeOf68 (hS.at _) rfl rfl) ?_
   refine scV hS call101 (.cons rfl .nil) (c_CheckGauge (hg.ext hS.ext)) ?_; clear hS; intro w hS
   refine sv (yMove rfl) <| sv (yExt rfl rfl) <| sv (yExt rfl rfl) <| sv (yExt rfl rfl) <| sv (yAsg rfl) <| sv (yAsg rfl) <| sv (yAsg rfl) <| nil <| cwQ ?_
   refine seq <| region <| sv (yMove rfl) <| sv (yNeq rfl rfl) <| nil <| cwQ ?_
   refine cond rfl (fun c30 => ?_) (fun c30 => ?_)
   ·
    simp only [BS, ne_eq] at c30
    refine seq <| region <| sv (yMove rfl) <| sv (yAsg rfl) <| nil <| cwQ ?_
    have hfin : gaugesE l t now = (checkG g).2.2 := by unfold gaugesE; rw [if_neg c15, if_pos (by rw [gErrs_bad hd hI c30]; exact c30), gErrs_bad hd hI c30]
    refine wp_ret (thenR (blockR (thenR (thenR (blockR (thenR ?_))))))
    exact retV (res1 rfl (eqI hfin)) hS.ext
   ·
    simp only [BS, ne_eq] at c30
    refine skip <| cwQ <| region <| sv (yMove h7) <| sv (fa68_0 rfl) <| sv (yLdB rfl isAgg9 (hS.at _) rfl) ?_
    refine smapset Value.string hS rfl rfl rfl runUnderlying153 (keyStr underlying9) ?_; clear hS; intro w hS
    refine nil <| cwQ <| region <| sv (yAdd h19 rfl ⟨by omega, by omega⟩) <| sv (yMove rfl) <| nil ?_
    exact ⟨_, _, rfl, ⟨k + 1, h0, h1, h2, h7, h17, h18, rfl, (by rw [names_take hx, ← setM_uniq]; exact hS.sub (.cons _ lrQ)), (by omega), (gErrs_take hd hI c30), rfl⟩, by omega⟩
  ·
   simp only [BS, ne_eq] at c20
   obtain rfl : k = l.length := by omega
   rw [List.drop_length] at hI
   have hI0 : gErrs l = 0 := hI
   rw [List.take_length] at hS
   have hun := uniq_le (namesG l)
   rw [names_len] at hun
   refine exit <| cwQ <| seq <| seq <| region <| sv (yMove h7) <| sv (yLenM rfl underlying153 (hS.is b16)) <| sv (yMove h0) <| sv (yLen rfl underlying25) ?_
   refine sv (yLss rfl rfl) <| nil <| cwQ ?_
   refine cond rfl (fun c40 => ?_) (fun c40 => ?_)
   ·
    simp only [BS, ne_eq, seenM, List.length_map] at c40
    refine seq <| region <| sv (yAsg rfl) <| nil <| cwQ ?_
    have hfin : gaugesE l t now = 5 := by unfold gaugesE; rw [if_neg c15, if_neg (fun h => h hI0), if_pos (fun h => by have := hun.2.2 h; omega)]
    refine wp_ret (thenR ?_)
    exact retV (res1 rfl (eqI hfin)) hS.ext
   ·
    simp only [BS, ne_eq, seenM, List.length_map] at c40
    refine skip <| cwQ <| seq <| region <| sv (yMove h1) <| sv (yMove h2) ?_
    refine sbslice hS underlying39 sizeOf3 rfl zeroValue3 rfl (.cons rfl rfl (.cons rfl rfl .nil)) rfl ?_; clear hS; intro b43 w hS
    refine scV hS call132 (.cons rfl .nil) (c_ticks (l := [t, now]) (ints_sl (l := [t, now]) (hS.at b43) (by simp; exact ⟨ht, hn⟩) (Nat.le_of_ble_eq_true rfl))) ?_; clear hS; intro w hS
    refine sv (yAsg rfl) <| nil <| cwQ ?_
    have hfin : gaugesE l t now = ticksE [t, now] := by unfold gaugesE; rw [if_neg c15, if_neg (fun h => h hI0), if_neg (fun h => h (hun.2.1 (by omega)))]
    refine wp_ret ?_
    exact retV (res1 rfl (eqI hfin)) hS.ext
end Go.Proofs.YtgidbailiababaaGreatDoor

/- part Sk9 -/
namespace Go.Proofs.YtgidbailiababaaGreatDoor
open Go Bx Go.Proofs.Tryz
theorem c_some {a n : Int} {w0 : World} : CV Tryz.prog 99 #[.int .i64 a, .int .i64 n] w0 (.int .i64 (someE a n)) := by
 refine enter func99 rfl ntmps99 rfl ?_
 have hS := St.start w0
 refine seq <| region <| sv (yAsg rfl) <| nil <| cwQ <| seq <| block <| seq <| region ?_
 refine sv (yMove rfl) ?_
 refine scV hS call72 (.cons rfl (.cons rfl (.cons rfl .nil))) c_out ?_; clear hS; intro w hS
 refine sv (yAsg rfl) <| nil <| cwQ ?_
 refine cond rfl (fun c5 => ?_) (fun c5 => ?_)
 ·
  refine seq <| region <| sv (yAsg rfl) <| nil <| cwQ ?_
  refine wp_ret (blockR (thenR ?_))
  exact retV (res1 rfl (eqI (by unfold someE; rw [if_pos c5]))) hS.ext
 ·
  refine seq <| region <| sv (yMove rfl) <| sv (yEql rfl rfl) <| sv (yAsg rfl) <| nil <| cwQ ?_
  refine cond rfl (fun c8 => ?_) (fun c8 => ?_)
  ·
   simp only [BS, ne_eq] at c8
   refine seq <| region <| sv (yAsg rfl) <| nil <| cwQ ?_
   refine wp_ret (blockR (thenR ?_))
   exact retV (res1 rfl (eqI (by unfold someE; rw [if_neg (by rw [c5]; decide), if_pos c8]))) hS.ext
  ·
   simp only [BS, ne_eq] at c8
   refine seq <| region <| sv (yMove rfl) ?_
   refine scV hS call72 (.cons rfl (.cons rfl (.cons rfl .nil))) c_out ?_; clear hS; intro w hS
   refine sv (yAsg rfl) <| nil <| cwQ ?_
   refine cond rfl (fun c11 => ?_) (fun c11 => ?_)
   ·
    refine seq <| region <| sv (yAsg rfl) <| nil <| cwQ ?_
    refine wp_ret (blockR (thenR ?_))
    exact retV (res1 rfl (eqI (by unfold someE; rw [if_neg (by rw [c5]; decide), if_neg c8, if_pos c11]))) hS.ext
   ·
    have h5 := outB_false.1 c5
    have h11 := outB_false.1 c11
    refine skip <| cwQ <| seq <| region <| sv (yMove rfl) <| sv (yMove rfl) <| sv (yAdd rfl rfl ⟨by omega, by omega⟩) <| sv (ySub rfl rfl ⟨by omega, by omega⟩) ?_
    refine sbslice hS underlying39 sizeOf3 rfl zeroValue3 rfl (.cons rfl rfl .nil) rfl ?_; clear hS; intro b18 w hS
    refine scV hS call132 (.cons rfl .nil) (c_ticks (l := [a + n - 1]) (ints_sl (l := [a + n - 1]) (hS.at b18) (by simp; exact ⟨by omega, by omega⟩) (Nat.le_of_ble_eq_true rfl))) ?_; clear hS; intro w hS
    refine sv (yAsg rfl) <| nil <| cwQ <| wp_ret ?_
    exact retV (res1 rfl (eqI (by unfold someE; rw [if_neg (by rw [c5]; decide), if_neg c8, if_neg (by rw [c11]; decide)]))) hS.ext
theorem c_rsome {a n : Int} {w0 : World} : CV Tryz.prog 114 #[.int .i64 a, .int .i64 n] w0 (.int .i64 (someE a n)) := by
 refine enter func114 rfl ntmps114 rfl ?_
 have hS := St.start w0
 refine seq <| region <| sv (yAsg rfl) <| nil <| cwQ <| seq <| seq <| region <| sv (yMove rfl) ?_
 refine scV hS call163 (.cons rfl (.cons rfl (.cons rfl .nil))) c_in ?_; clear hS; intro w hS
 refine sv (yNot rfl) <| nil <| cwQ ?_
 refine cond rfl (fun c7 => ?_) (fun c7 => ?_)
 ·
  simp only [← outB_inB] at c7
  refine seq <| region <| sv (yAsg rfl) <| nil <| cwQ ?_
  refine wp_ret (thenR ?_)
  exact retV (res1 rfl (eqI (by unfold someE; rw [if_pos c7]))) hS.ext
 ·
  simp only [← outB_inB] at c7
  have h7 := outB_false.1 c7
  refine skip <| cwQ <| seq <| seq <| region <| sv (yMove rfl) <| sv (yGtr rfl rfl) <| sv (yMove rfl) ?_
  refine sg rfl rfl rfl (fun g => (yMove rfl)) (fun v11 g11 => ?_)
  refine sgc hS rfl rfl rfl call165 (fun g => (.cons (g11.1 g) .nil)) (fun g => c_tick) ?_; clear hS; intro v12 w hS g12
  refine sg rfl rfl rfl (fun g => (yNot (g12.1 g))) (fun v13 g13 => ?_)
  refine sg rfl rfl rfl (fun g => (yMove (g13.1 g))) (fun v14 g14 => ?_)
  refine sgg rfl rfl g14 (fun g => (yMove rfl)) (fun v15 g15 => ?_)
  refine sgg rfl rfl g14 (fun g => (yMove rfl)) (fun v16 g16 => ?_)
  have hin : ∀ {x : Prop} {b : Bool}, x ∧ b = false → x := fun h => h.1
  refine sgg rfl rfl g14 (fun g => (yAdd (g15.1 g) (g16.1 g) (by obtain ⟨g1, g2⟩ := g; have := inB_iff.1 (by simpa using g2); exact ⟨by omega, by omega⟩))) (fun v17 g17 => ?_)
  refine sgg rfl rfl g14 (fun g => (ySub (g17.1 g) rfl (by obtain ⟨g1, g2⟩ := g; have := inB_iff.1 (by simpa using g2); exact ⟨by omega, by omega⟩))) (fun v18 g18 => ?_)
  refine sggc hS rfl rfl g14 call165 (fun g => (.cons (g18.1 g) .nil)) (fun g => c_tick) ?_; clear hS; intro v19 w hS g19
  refine sgg rfl rfl g14 (fun g => (yNot (g19.1 g))) (fun v20 g20 => ?_)
  refine sg rfl rfl rfl (fun g => (yOr (g14.1 g) rfl (fun hB => (g20.1 ⟨g, hB⟩)))) (fun v21 g21 => ?_)
  refine sv (yAnd rfl (fun hB => (g21.1 hB)) rfl) <| nil <| cwQ ?_
  refine cond rfl (fun c22 => ?_) (fun c22 => ?_)
  ·
   simp only [Bool.and_eq_true, Bool.or_eq_true, Bool.not_eq_true, Bool.and_eq_false_iff, Bool.or_eq_false_iff, decide_eq_true_eq, decide_eq_false_iff_not, Bool.not_eq_false', Bool.not_eq_true'] at c22
   refine seq <| region <| sv (yAsg rfl) <| nil <| cwQ ?_
   have hq : ¬ Bd a 0 200000 ∨ ¬ Bd (a + n - 1) 0 200000 := by
    rcases c22.2 with h | h
    ·
     exact .inl (fun k => by rw [inB_iff.2 k] at h; cases h)
    ·
     exact .inr (fun k => by rw [inB_iff.2 k] at h; cases h)
   have hfin : someE a n = 7 := by rw [someE_eq a n h7, if_pos ⟨c22.1, hq⟩]
   refine wp_ret (thenR ?_)
   exact retV (res1 rfl (eqI hfin)) hS.ext
  ·
   simp only [Bool.and_eq_true, Bool.or_eq_true, Bool.not_eq_true, Bool.and_eq_false_iff, Bool.or_eq_false_iff, decide_eq_true_eq, decide_eq_false_iff_not, Bool.not_eq_false', Bool.not_eq_true'] at c22
   refine skip <| cwQ <| seq <| region <| sv (yAsg rfl) <| nil <| cwQ ?_
   have hfin : someE a n = 0 := by
    rw [someE_eq a n h7, if_neg]
    rintro ⟨h1, h2⟩
    rcases c22 with h | ⟨h, k⟩
    ·
     exact h h1
    ·
     rcases h2 with h2 | h2
     ·
      exact h2 (inB_iff.1 h)
     ·
      exact h2 (inB_iff.1 k)
   refine wp_ret ?_
   exact retV (res1 rfl (eqI hfin)) hS.ext
theorem c_parts0 {c : Const} {a : Option Addr} {cap : Nat} {tick : Int} {w0 : World} (hok : ConstOk c) : CE Tryz.prog 155 #[.agg [.string c.name, .slice a c.heights.length cap, .int .i64 c.off, .int .i64 c.step, .int .i64 c.den, .int .i64 c.slack].toArray, .int .i64 tick] w0 (fun v w' => ∃ bp bc pv, v = .func (.func 181) #[] [ptQ bp, ptQ bc].toArray ∧ St w0 w' [blk bp [.int .i64 pv] 3, blk bc [.string c.name, .slice a c.heights.length cap, .int .i64 c.off, .int .i64 c.step, .int .i64 c.den, .int .i64 c.slack] 196]) := by
 refine enter func155 rfl ntmps155 rfl ?_
 have hS := St.start w0
 have hcy := cyc_pos hok
 refine seq <| region ?_
 refine sbox hS rfl rfl ?_; clear hS; intro b2 w hS
 refine sv (yAsg rfl) <| nil <| cwQ <| seq ?_
 refine region_any (C := (fun w => StX [] w0 w [blk b2 [.string c.name, .slice a c.heights.length cap, .int .i64 c.off, .int .i64 c.step, .int .i64 c.den, .int .i64 c.slack] 196])) mixed 8 11 (by kernel_rfl) (fun c a a' w h => by obtain ⟨_, v, hv, _⟩ := h; cases hv) hS (fun _ h => h) ?_
 clear hS; intro w hS
 refine hv (fun w hS => (fa196_2 rfl)) <| hv (fun w hS => (yLdB rfl isAgg3 (hS.at _) rfl)) <| hv (fun w hS => (fa196_3 rfl)) <| hv (fun w hS => (yLdB rfl isAgg3 (hS.at _) rfl)) <| hv (fun w hS => (yMove rfl)) <| hv (fun w hS => (yMulW rfl rfl)) <| hv (fun w hS => (yAddW rfl rfl)) <| hv (fun w hS => (yLdBA rfl isAgg196 sizeOf196 (hS.at _) rfl rfl)) <| hnil ?_
 refine awQ ?_
 refine a_step (i := 8) (is := [10]) (by kernel_rfl) ⟨?_, ?_, trivial⟩
 ·
  refine ⟨_, rfl, ?_⟩
  refine scV hS call153 (.cons rfl .nil) (c_cycle ⟨by omega, by omega⟩) ?_; clear hS; intro w hS
  refine nil ?_
  refine ⟨fun _ => hS.sub lrQ, ?_⟩
  refine awQ ?_
  refine a_step (i := 9) (is := [10]) (by kernel_rfl) ⟨?_, ?_, trivial⟩
  ·
   refine ⟨_, rfl, ?_⟩
   refine sv (yRem rfl rfl (by omega)) <| nil ?_
   refine ⟨fun _ => hS.sub lrQ, ?_⟩
   refine awQ <| a1Q 10 (by kernel_rfl) rfl ?_
   refine salloc hS zeroValue3 rfl ?_; clear hS; intro b5 w hS
   refine nil ?_
   refine ⟨fun _ => hS.sub (.cons _ lrQ), ?_⟩
   refine awQ <| a1Q 11 (by kernel_rfl) rfl ?_
   refine sst hS rfl rfl sizeOf3 rfl rfl rfl rfl ?_; clear hS; intro w hS
   refine nil ?_
   refine ⟨fun h => absurd h (by decide), ?_⟩
   refine awQ <| a_end (by kernel_rfl) <| cwQ <| seq <| region <| sv (yFn (.cons rfl (.cons rfl .nil))) <| sv (yAsg rfl) <| nil <| cwQ ?_
   refine wp_ret <| retQ (res1 rfl rfl) ?_
   exact ⟨b5, b2, _, rfl, hS⟩
  ·
   refine ⟨_, rfl, ?_⟩
   refine salloc hS zeroValue3 rfl ?_; clear hS; intro b5 w hS
   refine nil ?_
   refine ⟨fun _ => hS.sub (.cons _ lrQ), ?_⟩
   refine awQ <| a1Q 9 (by kernel_rfl) rfl <| sv (yRem rfl rfl (by omega)) <| nil ?_
   refine ⟨fun _ => hS.sub (.cons _ lrQ), ?_⟩
   refine awQ <| a1Q 11 (by kernel_rfl) rfl ?_
   refine sst hS rfl rfl sizeOf3 rfl rfl rfl rfl ?_; clear hS; intro w hS
   refine nil ?_
   refine ⟨fun h => absurd h (by decide), ?_⟩
   refine awQ <| a_end (by kernel_rfl) <| cwQ <| seq <| region <| sv (yFn (.cons rfl (.cons rfl .nil))) <| sv (yAsg rfl) <| nil <| cwQ ?_
   refine wp_ret <| retQ (res1 rfl rfl) ?_
   exact ⟨b5, b2, _, rfl, hS⟩
 ·
  refine ⟨_, rfl, ?_⟩
  refine salloc hS zeroValue3 rfl ?_; clear hS; intro b5 w hS
  refine nil ?_
  refine ⟨fun _ => hS.sub (.cons _ lrQ), ?_⟩
  refine awQ <| a1Q 8 (by kernel_rfl) rfl ?_
  refine scV hS call153 (.cons rfl .nil) (c_cycle ⟨by omega, by omega⟩) ?_; clear hS; intro w hS
  refine nil ?_
  refine ⟨fun _ => hS.sub (.cons _ lrQ), ?_⟩
  refine awQ <| a1Q 9 (by kernel_rfl) rfl <| sv (yRem rfl rfl (by omega)) <| nil ?_
  refine ⟨fun _ => hS.sub (.cons _ lrQ), ?_⟩
  refine awQ <| a1Q 11 (by kernel_rfl) rfl ?_
  refine sst hS rfl rfl sizeOf3 rfl rfl rfl rfl ?_; clear hS; intro w hS
  refine nil ?_
  refine ⟨fun h => absurd h (by decide), ?_⟩
  refine awQ <| a_end (by kernel_rfl) <| cwQ <| seq <| region <| sv (yFn (.cons rfl (.cons rfl .nil))) <| sv (yAsg rfl) <| nil <| cwQ ?_
  refine wp_ret <| retQ (res1 rfl rfl) ?_
  exact ⟨b5, b2, _, rfl, hS⟩
set_option maxHeartbeats 1000000 in
theorem c_levels0 {t : Table} {cv : Value} {from_ : Int} {w0 : World} (hsl : Sl w0 6 RConst cv t.consts) (hok : TableOk t) : CE Tryz.prog 100 #[.agg [.int .i64 t.mean, cv].toArray, .int .i64 from_, .int .i64 0] w0 (fun v w' => v = .slice none 0 0 ∧ Ext w0 w') := by
 obtain ⟨a, cap, rfl, hcap, hmx, hel⟩ := hsl
 have hmean := hok.mean
 have hlen12 := hok.len
 refine enter func100 rfl ntmps100 rfl ?_
 have hS := St.start w0
 refine seq <| region ?_
 refine sbox hS rfl rfl ?_; clear hS; intro b3 w hS
 refine sv (yAsg rfl) <| nil <| cwQ <| seq <| region <| sv (yMove rfl) ?_
 refine smake (bytes := 16) (zs := [.int .i64 0, .int .i64 0]) (m := 0) hS rfl rfl underlying198 ti200 rfl rfl rfl rfl rfl (by omega) (by omega) ?_; clear hS; intro b17 w hS
 refine sv (yAsg rfl) <| nil <| cwQ <| seq <| seq <| region <| sv (yMove rfl) <| sv (yLen rfl underlying198) <| sv (yMove rfl) ?_
 refine nil <| cwQ <| block <| loop (fun f w zz => f 1 = .int .i64 from_ ∧ f 3 = ptQ b3 ∧ f 7 = .slice (some ⟨b17, 0, none⟩) 0 0 ∧ f 19 = .int .i64 0 ∧ f 20 = .int .i64 0 ∧ StX [] w0 w [blk b3 [.int .i64 t.mean, .slice a t.consts.length cap] 24] ∧ zz = 0) _ ⟨_, rfl, rfl, rfl, rfl, rfl, rfl, (hS.sub (.cons _ lrQ)), rfl⟩ ?_
 clear hS
 rintro f w _ ⟨h1, h3, h7, h19, h20, hS, rfl⟩
 refine seq <| region <| sv (yLss h20 h19) <| nil <| cwQ <| seq ?_
 refine cond rfl (fun c21 => ?_) (fun c21 => ?_)
 ·
  simp only [BS, ne_eq] at c21
  omega
 ·
  simp only [BS, ne_eq] at c21
  refine exit <| cwQ <| seq <| seq <| region <| sv (fa24_1 h3) <| sv (yLdB rfl isAgg22 (hS.at _) rfl) <| sv (yLen rfl underlying22) <| sv (yMove rfl) ?_
  refine nil <| cwQ <| block <| loop (fun f w zz => ∃ (k : Nat), f 1 = .int .i64 from_ ∧ f 7 = .slice (some ⟨b17, 0, none⟩) 0 0 ∧ f 34 = .slice a t.consts.length cap ∧ f 35 = .int .i64 (t.consts.length : Int) ∧ f 36 = .int .i64 (k : Int) ∧ StX [] w0 w [] ∧ (k ≤ t.consts.length) ∧ zz = t.consts.length - k) _ ⟨_, rfl, 0, h1, h7, rfl, rfl, rfl, (hS.sub (List.nil_sublist _)), (Nat.zero_le _), rfl⟩ ?_
  clear hS
  rintro f w _ ⟨k, h1, h7, h34, h35, h36, hS, hk, rfl⟩
  refine seq <| region <| sv (yLss h36 h35) <| nil <| cwQ <| seq ?_
  refine cond rfl (fun c37 => ?_) (fun c37 => ?_)
  ·
   simp only [BS, ne_eq] at c37
   refine skip <| cwQ <| seq <| block <| seq <| region ?_
   obtain ⟨c, hx, hd⟩ := drop_of (l := t.consts) (k := k) (by omega)
   obtain ⟨b, o, cs, ha, hlen, hcs, hR⟩ := hel (k) (by omega)
   obtain rfl : c = t.consts[k] := (List.getElem?_eq_some_iff.1 hx).2.symm
   generalize t.consts[k] = c at hx hd hR
   obtain ⟨hv, rfl, hn1, hsl1, _, _, _, _⟩ := hR
   have hcok : ConstOk c := hok.consts c (List.mem_of_getElem? hx)
   obtain ⟨a1, cap1, rfl, hq1, hq2, hq3⟩ := id hsl1
   refine sv (yIxQ h34 ha h36 runUnderlying22 sizeOf196) <| sv (yLdA rfl isAgg196 sizeOf196 (hcs.ext hS.ext) rfl) ?_
   refine salloc hS zeroValue196 rfl ?_; clear hS; intro b10 w hS
   refine sst hS rfl rfl sizeOf196 rfl rfl rfl rfl ?_; clear hS; intro w hS
   refine nil <| cwQ <| seq <| region <| sv (yLdBA rfl isAgg196 sizeOf196 (hS.at _) rfl rfl) <| sv (yMove h1) ?_
   refine scall call155 (.cons rfl (.cons rfl .nil)) (c_parts0 hcok) ?_
   rintro _ w ⟨bp, bc, pv, rfl, hM⟩; replace hS := hS.call hM; clear hM
   refine sv (yAsg rfl) <| nil <| cwQ <| seq <| region <| sv (yMove h7) <| sv (yLen rfl underlying198) <| sv (yMove rfl) <| nil ?_
   refine cwQ <| block <| loop (fun f w zz => f 1 = .int .i64 from_ ∧ f 7 = .slice (some ⟨b17, 0, none⟩) 0 0 ∧ f 34 = .slice a t.consts.length cap ∧ f 35 = .int .i64 (t.consts.length : Int) ∧ f 36 = .int .i64 (k : Int) ∧ f 44 = .int .i64 0 ∧ f 45 = .int .i64 0 ∧ StX [] w0 w [] ∧ zz = 0) _ ⟨_, rfl, h1, h7, h34, h35, h36, rfl, rfl, (hS.sub (List.nil_sublist _)), rfl⟩ ?_
   clear hS
   rintro f w _ ⟨h1, h7, h34, h35, h36, h44, h45, hS, rfl⟩
   refine seq <| region <| sv (yLss h45 h44) <| nil <| cwQ <| seq ?_
   refine cond rfl (fun c46 => ?_) (fun c46 => ?_)
   ·
    simp only [BS, ne_eq] at c46
    omega
   ·
    simp only [BS, ne_eq] at c46
    refine exit <| cwQ <| region <| sv (yAdd h36 rfl ⟨by omega, by omega⟩) <| sv (yMove rfl) <| nil ?_
    exact ⟨_, _, rfl, ⟨k + 1, h1, h7, h34, h35, rfl, (hS.sub (List.nil_sublist _)), (by omega), rfl⟩, by omega⟩
  ·
   simp only [BS, ne_eq] at c37
   refine exit <| cwQ <| seq <| region <| sv (yAsg rfl) <| nil <| cwQ <| seq <| seq ?_
   refine region <| sv (yMove h7) <| sv (yLen rfl underlying198) <| sv (yMove rfl) <| nil <| cwQ <| block <| loop (fun f w zz => f 13 = .slice none 0 0 ∧ f 57 = .int .i64 0 ∧ f 58 = .int .i64 0 ∧ StX [] w0 w [] ∧ zz = 0) _ ⟨_, rfl, rfl, rfl, rfl, (hS.sub (List.nil_sublist _)), rfl⟩ ?_
   clear hS
   rintro f w _ ⟨h13, h57, h58, hS, rfl⟩
   refine seq <| region <| sv (yLss h58 h57) <| nil <| cwQ <| seq ?_
   refine cond rfl (fun c59 => ?_) (fun c59 => ?_)
   ·
    simp only [BS, ne_eq] at c59
    omega
   ·
    simp only [BS, ne_eq] at c59
    refine exit <| cwQ <| seq <| region <| sv (yMove h13) <| sv (yAsg rfl) <| nil <| cwQ <| wp_ret ?_
    refine retQ (res1 rfl rfl) ?_
    exact ⟨rfl, hS.ext⟩
end Go.Proofs.YtgidbailiababaaGreatDoor

/- part Sk10 -/
namespace Go.Proofs.YtgidbailiababaaGreatDoor
open Go Bx Go.Proofs.Tryz
theorem c_LevelsP {t : Table} {cs : List Value} {a n : Int} {w0 : World} (ht : RTable w0 cs t) (hn : n ≠ 0) : CE Tryz.prog 54 #[.agg cs.toArray, .int .i64 a, .int .i64 n] w0 (fun v w' => ∃ sv, v = .tuple #[sv, .int .i64 (levelsE t a n)] ∧ St w0 w' [rowI sv 74 2 (levelsF t a n).length ((levelsF t a n).flatMap spanC)]) := by
 obtain ⟨cv, rfl, hmean, hsl⟩ := id ht
 obtain ⟨aa, cap, rfl, hcap, hmx, hel⟩ := id hsl
 refine enter func54 rfl ntmps54 rfl ?_
 have hS := St.start w0
 refine seq <| region ?_
 refine sbox hS rfl rfl ?_; clear hS; intro b3 w hS
 refine sv (yAsg rfl) <| sv (yAsg rfl) <| nil <| cwQ <| seq <| region <| sv (yLdBA rfl isAgg24 sizeOf24 (hS.at _) rfl rfl) ?_
 refine scV hS call98 (.cons rfl .nil) (c_Check (ht.ext hS.ext)) ?_; clear hS; intro w hS
 refine sv (yMove rfl) <| sv (yExt rfl rfl) <| sv (yExt rfl rfl) <| sv (yAsg rfl) <| sv (yAsg rfl) <| nil <| cwQ <| seq <| seq ?_
 refine region <| sv (yMove rfl) <| sv (yEql rfl rfl) <| nil <| cwQ ?_
 refine cond rfl (fun c16 => ?_) (fun c16 => ?_)
 ·
  simp only [BS, ne_eq] at c16
  have hE := levelsE_good (a := a) (n := n) c16
  refine region <| sv (yMove rfl) <| sv (yMove rfl) ?_
  refine scV hS call99 (.cons rfl (.cons rfl .nil)) c_some ?_; clear hS; intro w hS
  refine sv (yAsg rfl) <| nil <| cwQ <| seq <| seq <| region <| sv (yMove rfl) <| sv (yNeq rfl rfl) <| nil ?_
  refine cwQ ?_
  refine cond rfl (fun c21 => ?_) (fun c21 => ?_)
  ·
   simp only [BS, ne_eq] at c21
   refine seq <| region <| sv (yMove rfl) <| sv (yAsg rfl) <| sv (yAsg rfl) <| nil <| cwQ ?_
   refine wp_ret (thenR ?_)
   refine retQ (res2 rfl rfl rfl) ?_
   refine ⟨.slice none 0 0, by rw [hE]; rfl, ?_⟩
   rw [levelsF_bad (by rw [hE]; exact c21)]
   exact (hS.sub (List.nil_sublist _)).nilrow 74 2
  ·
   simp only [BS, ne_eq] at c21
   have hok := tableOk_of c16
   have hz := hE.trans c21
   obtain ⟨_, hz2, hz3⟩ := levelsE_zero hz
   obtain ⟨m, rfl⟩ := Int.eq_ofNat_of_zero_le hz2.1
   refine skip <| cwQ <| seq <| region <| sv (yLdBA rfl isAgg24 sizeOf24 (hS.at _) rfl rfl) <| sv (yMove rfl) <| sv (yMove rfl) ?_
   refine scall call100 (.cons rfl (.cons rfl (.cons rfl .nil))) (c_levels (n := m) (hsl.ext RConst.stays hS.ext) hok (hz3 hn).1 (by omega)) ?_
   rintro v w hM; replace hS := hS.call1 hM; clear hM
   refine sv (yAsg rfl) <| sv (yAsg rfl) <| nil <| cwQ <| wp_ret <| retQ (res2 rfl rfl rfl) ?_
   refine ⟨v, by rw [hz]; rfl, ?_⟩
   rw [levelsF_good hz, show (lvlsL t a (m : Int).toNat).length = m from lvlsL_len t a m]
   exact hS.sub (.cons_cons _ (List.nil_sublist _))
 ·
  simp only [BS, ne_eq] at c16
  have hE := levelsE_bad (a := a) (n := n) c16
  refine skip <| cwQ <| seq <| seq <| region <| sv (yMove rfl) <| sv (yNeq rfl rfl) <| nil <| cwQ ?_
  refine cond rfl (fun c21 => ?_) (fun c21 => ?_)
  ·
   simp only [BS, ne_eq] at c21
   refine seq <| region <| sv (yMove rfl) <| sv (yAsg rfl) <| sv (yAsg rfl) <| nil <| cwQ ?_
   refine wp_ret (thenR ?_)
   refine retQ (res2 rfl rfl rfl) ?_
   refine ⟨.slice none 0 0, by rw [hE]; rfl, ?_⟩
   rw [levelsF_bad (by rw [hE]; exact c21)]
   exact (hS.sub (List.nil_sublist _)).nilrow 74 2
  ·
   simp only [BS, ne_eq] at c21
   exact absurd c21 c16
theorem c_Levels0 {t : Table} {cs : List Value} {a n : Int} {w0 : World} (ht : RTable w0 cs t) : CE Tryz.prog 54 #[.agg cs.toArray, .int .i64 a, .int .i64 0] w0 (fun v w' => ∃ sv, v = .tuple #[sv, .int .i64 (levelsE t a 0)] ∧ St w0 w' [rowI sv 74 2 (levelsF t a 0).length ((levelsF t a 0).flatMap spanC)]) := by
 obtain ⟨cv, rfl, hmean, hsl⟩ := id ht
 obtain ⟨aa, cap, rfl, hcap, hmx, hel⟩ := id hsl
 refine enter func54 rfl ntmps54 rfl ?_
 have hS := St.start w0
 refine seq <| region ?_
 refine sbox hS rfl rfl ?_; clear hS; intro b3 w hS
 refine sv (yAsg rfl) <| sv (yAsg rfl) <| nil <| cwQ <| seq <| region <| sv (yLdBA rfl isAgg24 sizeOf24 (hS.at _) rfl rfl) ?_
 refine scV hS call98 (.cons rfl .nil) (c_Check (ht.ext hS.ext)) ?_; clear hS; intro w hS
 refine sv (yMove rfl) <| sv (yExt rfl rfl) <| sv (yExt rfl rfl) <| sv (yAsg rfl) <| sv (yAsg rfl) <| nil <| cwQ <| seq <| seq ?_
 refine region <| sv (yMove rfl) <| sv (yEql rfl rfl) <| nil <| cwQ ?_
 refine cond rfl (fun c16 => ?_) (fun c16 => ?_)
 ·
  simp only [BS, ne_eq] at c16
  have hE := levelsE_good (a := a) (n := 0) c16
  refine region <| sv (yMove rfl) <| sv (yMove rfl) ?_
  refine scV hS call99 (.cons rfl (.cons rfl .nil)) c_some ?_; clear hS; intro w hS
  refine sv (yAsg rfl) <| nil <| cwQ <| seq <| seq <| region <| sv (yMove rfl) <| sv (yNeq rfl rfl) <| nil ?_
  refine cwQ ?_
  refine cond rfl (fun c21 => ?_) (fun c21 => ?_)
  ·
   simp only [BS, ne_eq] at c21
   refine seq <| region <| sv (yMove rfl) <| sv (yAsg rfl) <| sv (yAsg rfl) <| nil <| cwQ ?_
   refine wp_ret (thenR ?_)
   refine retQ (res2 rfl rfl rfl) ?_
   refine ⟨.slice none 0 0, by rw [hE]; rfl, ?_⟩
   rw [levelsF_bad (by rw [hE]; exact c21)]
   exact (hS.sub (List.nil_sublist _)).nilrow 74 2
  ·
   simp only [BS, ne_eq] at c21
   have hok := tableOk_of c16
   have hz := hE.trans c21
   obtain ⟨_, hz2, hz3⟩ := levelsE_zero hz
   refine skip <| cwQ <| seq <| region <| sv (yLdBA rfl isAgg24 sizeOf24 (hS.at _) rfl rfl) <| sv (yMove rfl) <| sv (yMove rfl) ?_
   refine scV hS call100 (.cons rfl (.cons rfl (.cons rfl .nil))) (c_levels0 (hsl.ext RConst.stays hS.ext) hok) ?_; clear hS; intro w hS
   refine sv (yAsg rfl) <| sv (yAsg rfl) <| nil <| cwQ <| wp_ret <| retQ (res2 rfl rfl rfl) ?_
   refine ⟨.slice none 0 0, by rw [hz]; rfl, ?_⟩
   rw [levelsF_good hz]
   exact (hS.sub (List.nil_sublist _)).nilrow 74 2
 ·
  simp only [BS, ne_eq] at c16
  have hE := levelsE_bad (a := a) (n := 0) c16
  refine skip <| cwQ <| seq <| seq <| region <| sv (yMove rfl) <| sv (yNeq rfl rfl) <| nil <| cwQ ?_
  refine cond rfl (fun c21 => ?_) (fun c21 => ?_)
  ·
   simp only [BS, ne_eq] at c21
   refine seq <| region <| sv (yMove rfl) <| sv (yAsg rfl) <| sv (yAsg rfl) <| nil <| cwQ ?_
   refine wp_ret (thenR ?_)
   refine retQ (res2 rfl rfl rfl) ?_
   refine ⟨.slice none 0 0, by rw [hE]; rfl, ?_⟩
   rw [levelsF_bad (by rw [hE]; exact c21)]
   exact (hS.sub (List.nil_sublist _)).nilrow 74 2
  ·
   simp only [BS, ne_eq] at c21
   exact absurd c21 c16
theorem c_Levels {t : Table} {cs : List Value} {a n : Int} {w0 : World} (ht : RTable w0 cs t) : CE Tryz.prog 54 #[.agg cs.toArray, .int .i64 a, .int .i64 n] w0 (fun v w' => ∃ sv, v = .tuple #[sv, .int .i64 (levelsE t a n)] ∧ St w0 w' [rowI sv 74 2 (levelsF t a n).length ((levelsF t a n).flatMap spanC)]) := by
 by_cases hn : n = 0
 ·
  subst hn; exact c_Levels0 (n := 0) ht
 ·
  exact c_LevelsP ht hn
theorem c_down {a b : Int} {w0 : World} (hb : 0 < b) (ha : Bd a (-1000000000000) 1000000000000) : CV Tryz.prog 166 #[.int .i64 a, .int .i64 b] w0 (.int .i64 (a / b)) := by
 refine enter func166 rfl ntmps166 rfl ?_
 have hS := St.start w0
 refine seq <| region <| sv (yAsg rfl) <| nil <| cwQ <| seq <| region <| sv (yMove rfl) <| sv (yMove rfl) ?_
 refine sv (yQuo rfl rfl hb ⟨by omega, by omega⟩) <| sv (yAsg rfl) <| nil <| cwQ <| seq <| seq <| region <| sv (yMove rfl) <| sv (yMove rfl) ?_
 refine sv (yRem rfl rfl hb) <| sv (yLss rfl rfl) <| nil <| cwQ ?_
 refine cond rfl (fun c12 => ?_) (fun c12 => ?_)
 ·
  simp only [BS, ne_eq] at c12
  have hd := tdiv_floor (a := a) hb
  rw [if_pos c12] at hd
  have hq := tdiv_bd hb ha
  refine region <| sv (yMove rfl) <| sv (ySub rfl rfl ⟨by omega, by omega⟩) <| sv (yAsg rfl) <| nil <| cwQ <| seq <| region <| sv (yMove rfl) ?_
  refine sv (yAsg rfl) <| nil <| cwQ <| wp_ret ?_
  exact retV (res1 rfl (eqI hd.symm)) hS.ext
 ·
  simp only [BS, ne_eq] at c12
  have hd := tdiv_floor (a := a) hb
  rw [if_neg c12] at hd
  refine skip <| cwQ <| seq <| region <| sv (yMove rfl) <| sv (yAsg rfl) <| nil <| cwQ <| wp_ret ?_
  exact retV (res1 rfl (eqI hd.symm)) hS.ext
theorem c_up {a b : Int} {w0 : World} (hb : 0 < b) (ha : Bd a (-1000000000000) 1000000000000) : CV Tryz.prog 167 #[.int .i64 a, .int .i64 b] w0 (.int .i64 (-((-a) / b))) := by
 refine enter func167 rfl ntmps167 rfl ?_
 have hS := St.start w0
 have hq := div_bd (a := -a) (b := b) (A := 1000000000000) hb ⟨by have := Int.mul_le_mul_of_nonneg_left (show 1 ≤ b by omega) (show (0 : Int) ≤ 1000000000000 by decide); omega, by have := Int.mul_le_mul_of_nonneg_left (show 1 ≤ b by omega) (show (0 : Int) ≤ 1000000000000 by decide); omega⟩
 refine seq <| region <| sv (yAsg rfl) <| nil <| cwQ <| seq <| region <| sv (yMove rfl) <| sv (yNeg rfl ⟨by omega, by omega⟩) ?_
 refine sv (yMove rfl) ?_
 refine scV hS call166 (.cons rfl (.cons rfl .nil)) (c_down hb ⟨by omega, by omega⟩) ?_; clear hS; intro w hS
 refine sv (yNeg rfl ⟨by omega, by omega⟩) <| sv (yAsg rfl) <| nil <| cwQ <| wp_ret ?_
 exact retV (res1 rfl rfl) hS.ext
set_option maxHeartbeats 2000000 in
theorem c_rlevel {t : Table} {cs : List Value} {tick : Int} {w0 : World} (ht : RTable w0 cs t) (hok : TableOk t) (htb : Bd tick 0 300000) : CV Tryz.prog 115 #[.agg cs.toArray, .int .i64 tick] w0 (.agg (spanC (lvlT t tick)).toArray) := by
 obtain ⟨cv, rfl, hmean, hsl⟩ := id ht
 obtain ⟨a, cap, rfl, hcap, hmx, hel⟩ := id hsl
 have hmean0 := hok.mean
 have hl12 := hok.len
 refine enter func115 rfl ntmps115 rfl ?_
 have hS := St.start w0
 refine seq <| region ?_
 refine sbox hS rfl rfl ?_; clear hS; intro b2 w hS
 refine salloc hS zeroValue74 rfl ?_; clear hS; intro b4 w hS
 refine nil <| cwQ <| seq <| region <| sv (fa24_0 rfl) <| sv (yLdB rfl isAgg3 (hS.at _) rfl) <| sv (fa24_0 rfl) <| sv (yLdB rfl isAgg3 (hS.at _) rfl) <| sv (yBuild zeroValue74 rfl pl74 (.cons rfl rfl (.cons rfl rfl .nil)) rfl) ?_
 refine salloc hS zeroValue74 rfl ?_; clear hS; intro b5 w hS
 refine sst hS rfl rfl sizeOf74 rfl rfl rfl rfl ?_; clear hS; intro w hS
 refine nil <| cwQ <| seq <| seq <| region <| sv (yAsg rfl) <| nil <| cwQ <| block ?_
 refine loop (fun f w zz => ∃ (k : Nat), f 1 = .int .i64 tick ∧ f 2 = ptQ b2 ∧ f 4 = ptQ b4 ∧ f 5 = ptQ b5 ∧ f 6 = .int .i64 (k : Int) ∧ StX [] w0 w [blk b5 (spanC (lvl t.mean (t.consts.take k) tick)) 74, blk b4 [.int .i64 0, .int .i64 0] 74, blk b2 [.int .i64 t.mean, .slice a t.consts.length cap] 24] ∧ (k ≤ t.consts.length) ∧ zz = t.consts.length - k) _ ⟨_, rfl, 0, rfl, rfl, rfl, rfl, rfl, hS, (Nat.zero_le _), rfl⟩ ?_
 clear hS
 rintro f w _ ⟨k, h1, h2, h4, h5, h6, hS, hk, rfl⟩
 refine seq <| seq <| region <| sv (yMove h6) <| sv (fa24_1 h2) <| sv (yLdB rfl isAgg22 (hS.at _) rfl) <| sv (yLen rfl underlying22) <| sv (yLss rfl rfl) <| nil ?_
 refine cwQ ?_
 refine cond rfl (fun c22 => ?_) (fun c22 => ?_)
 ·
  simp only [BS, ne_eq] at c22
  obtain ⟨c, hx, hd⟩ := drop_of (l := t.consts) (k := k) (by omega)
  obtain ⟨b, o, cs, ha, hlen, hcs, hR⟩ := hel (k) (by omega)
  obtain rfl : c = t.consts[k] := (List.getElem?_eq_some_iff.1 hx).2.symm
  generalize t.consts[k] = c at hx hd hR
  obtain ⟨hv, rfl, hn1, hsl1, hi1, hi2, hi3, hi4⟩ := hR
  have hx0 := hx
  have hcok : ConstOk c := hok.consts c (List.mem_of_getElem? hx)
  obtain ⟨a1, cap1, rfl, hq1, hq2, hel1⟩ := id hsl1
  have hcy := cyc_pos hcok
  have hden := hcok.den
  have hln := hcok.len
  have hsk := hcok.slack
  have hst := hcok.step
  have hof := hcok.off
  have hpb := pAt_bd hcok tick
  generalize hpe : pAt c tick = p at hpb
  have hqb := quot_bd hcok hpb
  have hib := interp_bd hcok hpb
  have hdv1 := div_bd (A := 10000) (show 0 < c.den by omega) hib
  have hdv2 := div_bd (a := -interp c p) (A := 10000) (show 0 < c.den by omega) ⟨by omega, by omega⟩
  have hm1 : Bd ((p / c.den + 1) % c.heights.length) 0 (c.heights.length - 1) := ⟨Int.emod_nonneg _ (by omega), by have := Int.emod_lt_of_pos (p / c.den + 1) (show 0 < (c.heights.length : Int) by omega); omega⟩
  have hh0 := height_bd hcok (p / c.den).toNat
  have hh1 := height_bd hcok ((p / c.den + 1) % c.heights.length).toNat
  have hmb := mul_bd (B := 1000) hh0 (show Bd (c.den - p % c.den) 0 1000 by omega) (by decide)
  have hmb2 := mul_bd (B := 1000) hh1 (show Bd (p % c.den) 0 1000 by omega) (by decide)
  obtain ⟨bx, ox, csx, hax, hlenx, hcsx, hRx⟩ := hel1 (p / c.den).toNat (by omega)
  obtain ⟨rfl, _⟩ := hRx
  rw [show c.heights[(p / c.den).toNat] = c.heights.getD (p / c.den).toNat 0 from getD_at _ _ (by omega)] at hcsx
  obtain ⟨bu, ou, csu, hau, hlenu, hcsu, hRu⟩ := hel1 ((p / c.den + 1) % c.heights.length).toNat (by omega)
  obtain ⟨rfl, _⟩ := hRu
  rw [show c.heights[((p / c.den + 1) % c.heights.length).toNat] = c.heights.getD ((p / c.den + 1) % c.heights.length).toNat 0 from getD_at _ _ (by omega)] at hcsu
  have hmt := mul_bd (a := tick) (b := c.step) (A := 300000) (B := 100000) ⟨by omega, by omega⟩ ⟨by omega, by omega⟩ (by decide)
  rw [Int.mul_comm] at hmt
  have hnn : 0 ≤ c.step * tick := Int.mul_nonneg (by omega) htb.1
  have hlb := lvl_bd hmean0 (t.consts.take k) tick (fun x hx => hok.consts x (List.mem_of_mem_take hx))
  have htl : (t.consts.take k).length ≤ 12 := by simp; omega
  refine skip <| cwQ <| seq <| block <| seq <| region <| sv (fa24_1 h2) <| sv (yLdB rfl isAgg22 (hS.at _) rfl) <| sv (yMove h6) ?_
  refine sv (yIxQ rfl ha rfl runUnderlying22 sizeOf196) <| sv (yLdA rfl isAgg196 sizeOf196 (hcs.ext hS.ext) rfl) ?_
  refine salloc hS zeroValue196 rfl ?_; clear hS; intro b7 w hS
  refine sst hS rfl rfl sizeOf196 rfl rfl rfl rfl ?_; clear hS; intro w hS
  refine nil <| cwQ <| seq <| region <| sv (fa196_1 rfl) <| sv (yLdB rfl isAgg39 (hS.at _) rfl) <| sv (yLen rfl underlying39) <| sv (yAsg rfl) <| nil ?_
  refine cwQ <| seq <| region <| sv (fa196_2 rfl) <| sv (yLdB rfl isAgg3 (hS.at _) rfl) <| sv (fa196_3 rfl) <| sv (yLdB rfl isAgg3 (hS.at _) rfl) <| sv (yMove h1) <| sv (yMul rfl rfl ⟨by omega, by omega⟩) ?_
  refine sv (yAdd rfl rfl ⟨by omega, by omega⟩) <| sv (fa196_4 rfl) <| sv (yLdB rfl isAgg3 (hS.at _) rfl) <| sv (yMove rfl) <| sv (yMul rfl rfl ⟨by omega, by omega⟩) ?_
  refine sv (Y.to (yRemP rfl rfl (by omega) (by omega)) (show Value.int .i64 ((c.off + c.step * tick) % (c.den * c.heights.length)) = .int .i64 p by rw [← hpe]; rfl)) ?_
  refine sv (yAsg rfl) <| nil <| cwQ <| seq <| region_draw mixed (by kernel_rfl) hS <| qv (fun w hS => (yMove rfl)) <| qv (fun w hS => (fa196_4 rfl)) <| qv (fun w hS => (yLdB rfl isAgg3 (hS.at _) rfl)) <| qv (fun w hS => (yQuoP rfl rfl ⟨by omega, by omega⟩ (by omega))) ?_
  refine qv (fun w hS => (yMove rfl)) <| qv (fun w hS => (fa196_4 rfl)) <| qv (fun w hS => (yLdB rfl isAgg3 (hS.at _) rfl)) <| qv (fun w hS => (yRemP rfl rfl (by omega) (by omega))) <| qv (fun w hS => (yAsg rfl)) <| qv (fun w hS => (yAsg rfl)) ?_
  clear hS; refine qnil (fun w hS => ?_)
  refine cwQ <| seq <| region_draw mixed (by kernel_rfl) hS <| qv (fun w hS => (fa196_1 rfl)) <| qv (fun w hS => (yLdB rfl isAgg39 (hS.at _) rfl)) <| qv (fun w hS => (yMove rfl)) <| qv (fun w hS => (yIxQ rfl hax rfl runUnderlying39 sizeOf3)) <| qv (fun w hS => (yLd rfl isAgg3 ((hcsx.ext hS.ext).one))) <| qv (fun w hS => (fa196_4 rfl)) ?_
  refine qv (fun w hS => (yLdB rfl isAgg3 (hS.at _) rfl)) <| qv (fun w hS => (yMove rfl)) <| qv (fun w hS => (ySub rfl rfl ⟨by omega, by omega⟩)) <| qv (fun w hS => (yMul rfl rfl ⟨by omega, by omega⟩)) <| qv (fun w hS => (fa196_1 rfl)) <| qv (fun w hS => (yLdB rfl isAgg39 (hS.at _) rfl)) <| qv (fun w hS => (yMove rfl)) <| qv (fun w hS => (yAdd rfl rfl ⟨by omega, by omega⟩)) <| qv (fun w hS => (yMove rfl)) ?_
  refine qv (fun w hS => (yRemP rfl rfl (by omega) (by omega))) <| qv (fun w hS => (yIxQ rfl hau rfl runUnderlying39 sizeOf3)) <| qv (fun w hS => (yLd rfl isAgg3 ((hcsu.ext hS.ext).one))) <| qv (fun w hS => (yMove rfl)) <| qv (fun w hS => (yMul rfl rfl ⟨by omega, by omega⟩)) <| qv (fun w hS => (Y.to (yAdd rfl rfl ⟨by omega, by omega⟩) (show Value.int .i64 _ = .int .i64 (interp c p) from rfl))) <| qv (fun w hS => (yAsg rfl)) ?_
  clear hS; refine qnil (fun w hS => ?_)
  refine cwQ <| seq <| cutK (fun f => f 1 = .int .i64 tick ∧ f 2 = ptQ b2 ∧ f 4 = ptQ b4 ∧ f 5 = ptQ b5 ∧ f 6 = .int .i64 (k : Int) ∧ f 7 = ptQ b7 ∧ f 12 = .int .i64 (interp c p) ∧ True) ⟨h1, h2, h4, h5, h6, rfl, rfl, trivial⟩ ?_
  rintro f ⟨h1, h2, h4, h5, h6, h7, h12, -⟩
  refine region_tail mixed 11 (by kernel_rfl) hS <| qv (fun w hS => (fa74_0 h5)) <| qv (fun w hS => (yLdB rfl isAgg3 (hS.at _) rfl)) <| qv (fun w hS => (yMove h12)) <| qv (fun w hS => (fa196_4 h7)) <| qv (fun w hS => (yLdB rfl isAgg3 (hS.at _) rfl)) <| qcall call166 (.cons rfl (.cons rfl .nil)) (fun w hS => (c_down (by omega) ⟨by omega, by omega⟩)) <| qv (fun w hS => (yAdd rfl rfl ⟨by omega, by omega⟩)) <| qv (fun w hS => (fa196_5 h7)) ?_
  refine qv (fun w hS => (yLdB rfl isAgg3 (hS.at _) rfl)) ?_
  have hsub : (lvl t.mean (t.consts.take k) tick).lo + interp c p / c.den - c.slack = (addS (lvl t.mean (t.consts.take k) tick) (partP c (pAt c tick))).lo := by rw [hpe]; unfold addS partP; simp only []; omega
  refine qv (fun w hS => (Y.to (ySub rfl rfl ⟨by omega, by omega⟩) (eqI hsub.symm))) <| qv (fun w hS => (fa74_0 h5)) ?_
  clear hS; refine qtl (fun w hS => ?_)
  refine sst hS rfl rfl sizeOf3 rfl rfl rfl rfl ?_; clear hS; intro w hS
  refine nil <| cwQ <| region_tail mixed 11 (by kernel_rfl) hS <| qv (fun w hS => (fa74_1 h5)) <| qv (fun w hS => (yLdB rfl isAgg3 (hS.at _) rfl)) <| qv (fun w hS => (yMove h12)) <| qv (fun w hS => (fa196_4 h7)) <| qv (fun w hS => (yLdB rfl isAgg3 (hS.at _) rfl)) <| qcall call167 (.cons rfl (.cons rfl .nil)) (fun w hS => (c_up (by omega) ⟨by omega, by omega⟩)) ?_
  refine qv (fun w hS => (yAdd rfl rfl ⟨by omega, by omega⟩)) <| qv (fun w hS => (fa196_5 h7)) <| qv (fun w hS => (yLdB rfl isAgg3 (hS.at _) rfl)) ?_
  have hsuh : (lvl t.mean (t.consts.take k) tick).hi + -((-interp c p) / c.den) + c.slack = (addS (lvl t.mean (t.consts.take k) tick) (partP c (pAt c tick))).hi := by rw [hpe]; unfold addS partP; simp only []; omega
  refine qv (fun w hS => (Y.to (yAdd rfl rfl ⟨by omega, by omega⟩) (eqI hsuh.symm))) <| qv (fun w hS => (fa74_1 h5)) ?_
  clear hS; refine qtl (fun w hS => ?_)
  refine sst hS rfl rfl sizeOf3 rfl rfl rfl rfl ?_; clear hS; intro w hS
  refine nil <| cwQ <| region <| sv (yMove h6) <| sv (yAdd rfl rfl ⟨by omega, by omega⟩) <| sv (yAsg rfl) <| nil ?_
  exact ⟨_, _, rfl, ⟨k + 1, h1, h2, h4, h5, rfl, (by rw [lvl_take hx0]; exact hS.sub (.cons _ lrQ)), (by omega), rfl⟩, by omega⟩
 ·
  simp only [BS, ne_eq] at c22
  obtain rfl : k = t.consts.length := by omega
  rw [List.take_length] at hS
  refine exit <| cwQ <| seq <| region <| sv (yLdBA h5 isAgg74 sizeOf74 (hS.at _) rfl rfl) ?_
  refine sst hS h4 rfl sizeOf74 rfl rfl rfl rfl ?_; clear hS; intro w hS
  refine nil <| cwQ <| wp_ret ?_
  exact retV (resV1 rfl (rc h4 isAgg74 sizeOf74 (hS.at _) rfl rfl)) hS.ext
end Go.Proofs.YtgidbailiababaaGreatDoor

/- part Sk11 -/
namespace Go.Proofs.YtgidbailiababaaGreatDoor
open Go Bx Go.Proofs.Tryz
theorem c_speakers {a : Option Addr} {len cap : Nat} {tick now : Int} {w0 : World} : CE Tryz.prog 134 #[.slice a len cap, .int .i64 tick, .int .i64 now] w0 (fun v w' => ∃ p1 p2 p3, v = .func (.func 171) #[] [ptQ p1, ptQ p2, ptQ p3].toArray ∧ St w0 w' [blk p3 [.int .i64 now] 3, blk p2 [.int .i64 tick] 3, blk p1 [.slice a len cap] 25]) := by
 refine enter func134 rfl ntmps134 rfl ?_
 have hS := St.start w0
 refine seq <| region ?_
 refine sbox hS rfl rfl ?_; clear hS; intro b3 w hS
 refine sbox hS rfl rfl ?_; clear hS; intro b4 w hS
 refine sbox hS rfl rfl ?_; clear hS; intro b5 w hS
 refine sv (yAsg rfl) <| nil <| cwQ <| seq <| region <| sv (yFn (.cons rfl (.cons rfl (.cons rfl .nil)))) <| sv (yAsg rfl) <| nil <| cwQ ?_
 refine wp_ret <| retQ (res1 rfl rfl) ?_
 exact ⟨b3, b4, b5, rfl, hS⟩
set_option maxHeartbeats 1000000 in
theorem it_speakers {l : List Gauge} {a : Option Addr} {cap p1 p2 p3 : Nat} {tick now : Int} {w0 : World} (hsl : Sl w0 5 RGauge (.slice a l.length cap) l) (hok : ∀ g ∈ l, GaugeOk g) (ht : Bd tick 0 200000) : ItC Tryz.prog 171 [ptQ p1, ptQ p2, ptQ p3] w0 [blk p3 [.int .i64 now] 3, blk p2 [.int .i64 tick] 3, blk p1 [.slice a l.length cap] 25] spC (spk tick now l) := by
 obtain ⟨a', cap', hv, hcap, hmx, hel⟩ := hsl
 obtain ⟨rfl, rfl⟩ := slice_inj hv.symm
 intro yl Cb w L hY h0 hS
 replace hS : StX [] w0 w (blk p3 [.int .i64 now] 3 :: blk p2 [.int .i64 tick] 3 :: blk p1 [.slice a l.length cap] 25 :: L) := hS
 refine enterX func171 rfl ntmps171 rfl ?_
 skip
 refine seqX <| regionX rfl <| sv (yLdB rfl isAgg25 (hS.at _) rfl) <| sv (yLen rfl underlying25) <| sv (yMove rfl) <| nil ?_
 show Code.wpIn _ _ _ _ _ _ _
 refine blockX <| loopX (fun f w zz => ∃ (k : Nat) (L : List Bx.Item), f 0 = .func (.yield yl) #[] #[] ∧ f 2 = ptQ p2 ∧ f 3 = ptQ p3 ∧ f 9 = .slice a l.length cap ∧ f 10 = .int .i64 (l.length : Int) ∧ f 11 = .int .i64 (k : Int) ∧ StX [] w0 w (blk p3 [.int .i64 now] 3 :: blk p2 [.int .i64 tick] 3 :: blk p1 [.slice a l.length cap] 25 :: L) ∧ (k ≤ l.length) ∧ (Cb true (spk tick now (l.take k)) L) ∧ zz = l.length - k) _ ⟨_, rfl, 0, L, rfl, rfl, rfl, rfl, rfl, rfl, hS, (Nat.zero_le _), (h0), rfl⟩ ?_
 clear hS
 rintro f w _ ⟨k, L, h0, h2, h3, h9, h10, h11, hS, hk, hcb, rfl⟩
 refine seqX <| regionX rfl <| sv (yLss h11 h10) <| nil ?_
 show Code.wpIn _ _ _ _ _ _ _
 refine seqX ?_
 refine condX rfl (fun c12 => ?_) (fun c12 => ?_)
 ·
  simp only [BS, ne_eq] at c12
  refine skipX ?_
  show Code.wpIn _ _ _ _ _ _ _
  refine seqX <| blockX <| seqX <| regionX rfl ?_
  obtain ⟨u, hx, hd⟩ := drop_of (l := l) (k := k) (by omega)
  obtain ⟨b, o, cs, ha, hlen, hcs, hR⟩ := hel (k) (by omega)
  obtain rfl : u = l[k] := (List.getElem?_eq_some_iff.1 hx).2.symm
  generalize l[k] = u at hx hd hR
  have hg := hR
  obtain ⟨dv, rv, rfl, -, -, -, hsd, hsr⟩ := id hg
  obtain ⟨ad, cad, rfl, -⟩ := hsd
  obtain ⟨ar, car, rfl, -⟩ := hsr
  refine sv (yMove h11) <| sv (yIxQ h9 ha h11 runUnderlying25 sizeOf68) <| sv (yLdA rfl isAgg68 sizeOf68 (hcs.ext hS.ext) hlen) ?_
  refine salloc hS zeroValue68 rfl ?_; clear hS; intro b6 w hS
  refine sv (yAsg rfl) ?_
  refine sst hS rfl rfl sizeOf68 rfl rfl rfl rfl ?_; clear hS; intro w hS
  refine nil ?_
  show Code.wpIn _ _ _ _ _ _ _
  refine seqX <| regionX rfl <| sv (yLdBA rfl isAgg68 sizeOf68 (hS.at _) rfl rfl) <| sv (yLdB h2 isAgg3 (hS.at _) rfl) <| sv (yLdB h3 isAgg3 (hS.at _) rfl) ?_
  refine scV hS call172 (.cons rfl (.cons rfl (.cons rfl .nil))) (c_says (hg.ext hS.ext) (hok u (List.mem_of_getElem? hx)) ht) ?_; clear hS; intro w hS
  refine sv (yMove rfl) <| sv (yExt rfl rfl) <| sv (yExt rfl rfl) ?_
  refine salloc hS zeroValue74 rfl ?_; clear hS; intro b7 w hS
  refine sst hS rfl rfl sizeOf74 rfl rfl rfl rfl ?_; clear hS; intro w hS
  refine sv (yAsg rfl) <| nil ?_
  show Code.wpIn _ _ _ _ _ _ _
  refine seqX <| regionL <| preX 6 rfl <| sv (yMove rfl) <| sv (yEql rfl rfl) <| sv (yMove rfl) ?_
  refine sg rfl rfl rfl (fun g => (yMove h0)) (fun v26 g26 => ?_)
  refine sg rfl rfl rfl (fun g => (yMove rfl)) (fun v27 g27 => ?_)
  refine sg rfl rfl rfl (fun g => (yLdBA rfl isAgg74 sizeOf74 (hS.at _) rfl rfl)) (fun v28 g28 => ?_)
  refine nil ?_
  show wpListIn _ _ _ _ _ _ _ _
  refine yieldG rfl rfl rfl (fun hne => ?_) (fun g => ⟨(g26.1 g), (.cons (g27.1 g) (.cons (g28.1 g) .nil)), (hY _ (((k : Int), (saysG u tick now).1)) w L [blk b7 (spanC (saysG u tick now).1) 74, blk b6 [.string u.name, .int .i64 u.err, .int .i64 u.rate, .slice ad u.datums.length cad, .slice ar u.readings.length car] 68, blk p3 [.int .i64 now] 3, blk p2 [.int .i64 tick] 3, blk p1 [.slice a l.length cap] 25] (spk_pre hx (of_decide_eq_true g)) hcb hS), ?_⟩)
  ·
   refine endX rfl ?_
   refine sg rfl rfl rfl (fun g => (yNot (show _ = Value.bool true from absurd g hne))) (fun v30 g30 => ?_)
   refine sv (yAnd rfl (fun hB => (g30.1 hB)) rfl) <| nil ?_
   show Code.wpIn _ _ _ _ _ _ _
   refine condX rfl (fun c31 => ?_) (fun c31 => ?_)
   ·
    skip
    simp at c31
   ·
    skip
    have hE : ¬ (saysG u tick now).2 = 0 := fun h => hne (decide_eq_true h)
    refine skipX ?_
    show Code.wpIn _ _ _ _ _ _ _
    refine regionX rfl <| sv (yAdd h11 rfl ⟨by omega, by omega⟩) <| sv (yMove rfl) <| nil ?_
    exact ⟨_, _, rfl, ⟨k + 1, L, h0, h2, h3, h9, h10, rfl, (hS.sub (.cons _ (.cons _ lrQ))), (by omega), (by rw [spk_take hx, if_neg hE, List.append_nil]; exact hcb), rfl⟩, by omega⟩
  ·
   clear hS hcb; rintro _ w ⟨b, L, rfl, hcb, hS⟩
   have hE : (saysG u tick now).2 = 0 := of_decide_eq_true g
   refine endX rfl ?_
   refine sg rfl rfl rfl (fun g => (yNot rfl)) (fun v30 g30 => ?_)
   refine sv (yAnd rfl (fun hB => (g30.1 hB)) rfl) <| nil ?_
   show Code.wpIn _ _ _ _ _ _ _
   refine condX rfl (fun c31 => ?_) (fun c31 => ?_)
   ·
    skip
    obtain rfl : b = false := by cases b; rfl; simp at c31
    refine wpIn_ret (blockR (thenR (thenR (blockR ?_))))
    refine leafX (results_none rfl _ _ _) ?_
    exact ⟨L, hS.sub (List.sublist_append_right _ _), .inr ⟨_, hcb⟩⟩
   ·
    skip
    obtain rfl : b = true := by cases b; simp [hE] at c31; rfl
    replace hS : StX [] w0 w (blk b7 (spanC (saysG u tick now).1) 74 :: blk b6 [.string u.name, .int .i64 u.err, .int .i64 u.rate, .slice ad u.datums.length cad, .slice ar u.readings.length car] 68 :: blk p3 [.int .i64 now] 3 :: blk p2 [.int .i64 tick] 3 :: blk p1 [.slice a l.length cap] 25 :: L) := hS
    refine skipX ?_
    show Code.wpIn _ _ _ _ _ _ _
    refine regionX rfl <| sv (yAdd h11 rfl ⟨by omega, by omega⟩) <| sv (yMove rfl) <| nil ?_
    exact ⟨_, _, rfl, ⟨k + 1, L, h0, h2, h3, h9, h10, rfl, (hS.sub (.cons _ (.cons _ lrQ))), (by omega), (by rw [spk_take hx, if_pos hE]; exact hcb), rfl⟩, by omega⟩
 ·
  simp only [BS, ne_eq] at c12
  refine exitX ?_
  show bodyPostM (FX none) 0 _ _ _ .normal _ _
  refine leafXN (results_none rfl _ _ _) ?_
  obtain rfl : k = l.length := by omega
  rw [List.take_length] at hcb
  exact ⟨L, hS.sub (.cons _ (.cons _ (.cons _ lrQ))), .inl hcb⟩
end Go.Proofs.YtgidbailiababaaGreatDoor

/- part Sk12 -/
namespace Go.Proofs.YtgidbailiababaaGreatDoor
open Go Bx Go.Proofs.Tryz
theorem cW_isNaN {a : Int} {w0 : World} : CE Tryz.prog 175 #[.int .i64 a] w0 (fun v w' => v = .bool false ∧ w' = w0) := by
 refine enter func175 rfl ntmps175 rfl ?_
 skip
 refine seq <| region <| sv (yAsg rfl) <| nil <| cwQ <| seq <| region <| sv (yMove rfl) <| sv (yMove rfl) ?_
 refine sv (yNeq rfl rfl) <| sv (yAsg rfl) <| nil <| cwQ <| wp_ret <| retQ (res1 rfl rfl) ?_
 exact ⟨eqB (by simp), rfl⟩
theorem cW_Compare {a b : Int} {w0 : World} : CE Tryz.prog 138 #[.int .i64 a, .int .i64 b] w0 (fun v w' => v = .int .i64 (cmpI a b) ∧ w' = w0) := by
 refine enter func138 rfl ntmps138 rfl ?_
 skip
 refine seq <| region <| sv (yAsg rfl) <| nil <| cwQ <| seq <| region <| sv (yMove rfl) ?_
 refine scall call175 (.cons rfl .nil) cW_isNaN ?_
 rintro _ _ ⟨rfl, rfl⟩
 refine sv (yAsg rfl) <| nil <| cwQ <| seq <| region <| sv (yMove rfl) ?_
 refine scall call175 (.cons rfl .nil) cW_isNaN ?_
 rintro _ _ ⟨rfl, rfl⟩
 refine sv (yAsg rfl) <| nil <| cwQ <| seq <| seq <| region <| sv (yMove rfl) <| nil <| cwQ ?_
 refine cond rfl (fun c11 => ?_) (fun c11 => ?_)
 ·
  exact absurd c11 (by decide)
 ·
  refine skip <| cwQ <| seq <| seq <| region <| sv (yMove rfl) <| nil <| cwQ ?_
  refine cond rfl (fun c13 => ?_) (fun c13 => ?_)
  ·
   exact absurd c13 (by decide)
  ·
   refine skip <| cwQ <| seq <| seq <| region <| sv (yMove rfl) <| sv (yMove rfl) <| sv (yLss rfl rfl) <| nil ?_
   refine cwQ ?_
   refine cond rfl (fun c16 => ?_) (fun c16 => ?_)
   ·
    simp only [BS, ne_eq] at c16
    refine seq <| region <| sv (yAsg rfl) <| nil <| cwQ ?_
    refine wp_ret (thenR ?_)
    refine retQ (res1 rfl rfl) ?_
    exact ⟨eqI (by unfold cmpI; rw [if_pos c16]), rfl⟩
   ·
    simp only [BS, ne_eq] at c16
    refine skip <| cwQ <| seq <| seq <| region <| sv (yMove rfl) <| sv (yMove rfl) <| sv (yGtr rfl rfl) <| nil ?_
    refine cwQ ?_
    refine cond rfl (fun c19 => ?_) (fun c19 => ?_)
    ·
     simp only [BS, ne_eq] at c19
     refine seq <| region <| sv (yAsg rfl) <| nil <| cwQ ?_
     refine wp_ret (thenR ?_)
     refine retQ (res1 rfl rfl) ?_
     exact ⟨eqI (by unfold cmpI; rw [if_neg c16, if_pos c19]), rfl⟩
    ·
     simp only [BS, ne_eq] at c19
     refine skip <| cwQ <| seq <| region <| sv (yAsg rfl) <| nil <| cwQ <| wp_ret <| retQ (res1 rfl rfl) ?_
     exact ⟨eqI (by unfold cmpI; rw [if_neg c16, if_neg c19]), rfl⟩
theorem cW_Or {l : List Int} {b : Nat} {T : TypeId} {w0 : World} (hb : w0.heap[b]? = some (.cells (l.map (Value.int .i64)).toArray T (0, 0))) (hl : l.length ≤ 1000) : CE Tryz.prog 137 #[.slice (some ⟨b, 0, none⟩) l.length l.length] w0 (fun v w' => v = .int .i64 (orF l) ∧ w' = w0) := by
 refine enter func137 rfl ntmps137 rfl ?_
 skip
 refine seq <| region <| sv (yAsg rfl) <| nil <| cwQ <| seq <| region <| sv (yAsg rfl) <| nil ?_
 refine cwQ <| seq <| seq <| region <| sv (yMove rfl) <| sv (yLen rfl underlying39) <| sv (yMove rfl) <| nil <| cwQ ?_
 refine block <| loop (fun f w zz => ∃ (k : Nat), f 3 = .int .i64 0 ∧ f 6 = .slice (some ⟨b, 0, none⟩) l.length l.length ∧ f 7 = .int .i64 (l.length : Int) ∧ f 8 = .int .i64 (k : Int) ∧ (w = w0) ∧ (k ≤ l.length) ∧ (orF l = orF (l.drop k)) ∧ zz = l.length - k) _ ⟨_, rfl, 0, rfl, rfl, rfl, rfl, (rfl), (Nat.zero_le _), (rfl), rfl⟩ ?_
 rintro f w _ ⟨k, h3, h6, h7, h8, hw, hk, hI, rfl⟩
 refine seq <| region <| sv (yLss h8 h7) <| nil <| cwQ <| seq ?_
 refine cond rfl (fun c9 => ?_) (fun c9 => ?_)
 ·
  simp only [BS, ne_eq] at c9
  subst hw
  obtain ⟨x, hx, hd⟩ := drop_of (l := l) (k := k) (by omega)
  refine skip <| cwQ <| seq <| block <| seq <| region <| sv (yIx0 h6 h8 runUnderlying39 sizeOf3 (by omega)) ?_
  refine sv (yLd rfl isAgg3 (blk_cells hb _ _ (show (l.map (Value.int .i64))[k]? = some (.int .i64 x) by rw [List.getElem?_map, hx]; rfl))) ?_
  refine sv (yAsg rfl) <| nil <| cwQ <| seq <| region <| sv (yMove rfl) <| sv (yMove h3) <| sv (yNeq rfl rfl) <| nil ?_
  refine cwQ ?_
  refine cond rfl (fun c14 => ?_) (fun c14 => ?_)
  ·
   simp only [BS, ne_eq] at c14
   refine seq <| region <| sv (yMove rfl) <| sv (yAsg rfl) <| nil <| cwQ ?_
   refine wp_ret (blockR (thenR (thenR (blockR (thenR ?_)))))
   refine retQ (res1 rfl rfl) ?_
   exact ⟨eqI (by rw [hI, hd, orF, if_neg c14]), rfl⟩
  ·
   simp only [BS, ne_eq] at c14
   refine skip <| cwQ <| region <| sv (yAdd h8 rfl ⟨by omega, by omega⟩) <| sv (yMove rfl) <| nil ?_
   exact ⟨_, _, rfl, ⟨k + 1, h3, h6, h7, rfl, (rfl), (by omega), (by rw [hI, hd, orF, if_pos c14]), rfl⟩, by omega⟩
 ·
  simp only [BS, ne_eq] at c9
  subst hw
  refine exit <| cwQ <| seq <| region <| sv (yMove h3) <| sv (yAsg rfl) <| nil <| cwQ ?_
  obtain rfl : k = l.length := by omega
  refine wp_ret <| retQ (res1 rfl rfl) ?_
  exact ⟨eqI (by rw [hI, List.drop_length]; rfl), rfl⟩
end Go.Proofs.YtgidbailiababaaGreatDoor

/- part Sk13 -/
namespace Go.Proofs.YtgidbailiababaaGreatDoor
open Go Bx Go.Proofs.Tryz
theorem c_pieces1 {x y : Int × Int} {w0 : World} : CE Tryz.prog 136 #[.agg (encE x).toArray, .agg (encE y).toArray] w0 (fun v w' => v = .int .i64 (cmpE x y) ∧ ∃ q os, w' = Sort.grow (w0.drewN q) os) := by
 refine enter func136 rfl ntmps136 rfl <| seq <| region <| sv (yBoxW (cs := encE x) rfl rfl) <| sv (yBoxW (cs := encE y) rfl rfl) <| sv (yAsg rfl) <| nil <| cwQ ?_
 obtain ⟨w1, hw1⟩ : ∃ w1, w1 = w0.alloc (.cells (encE x).toArray 182 (0, 0)) := ⟨_, rfl⟩
 obtain ⟨w2, hw2⟩ : ∃ w2, w2 = w1.alloc (.cells (encE y).toArray 182 (0, 0)) := ⟨_, rfl⟩
 have hx : w2.heap[w0.heap.size]? = some (.cells (encE x).toArray 182 (0, 0)) := by rw [hw2]; exact (ext_alloc _ _).get (by rw [hw1]; exact heap_alloc_new _ _)
 have hy : w2.heap[w1.heap.size]? = some (.cells (encE y).toArray 182 (0, 0)) := by rw [hw2]; exact heap_alloc_new _ _
 subst hw1
 rw [show ((w0.alloc (.cells (encE x).toArray 182 (0, 0))).alloc (.cells (encE y).toArray 182 (0, 0))) = w2 from hw2.symm]
 refine seq <| region_tailC (fun w => ∃ q, w = w2.drewN q) mixed 10 (by kernel_rfl) ⟨1, rfl⟩ <| qvC (fun w _ => fa182_0 rfl) ?_
 refine qvC (fun w hC => yLdB rfl isAgg3 (by obtain ⟨q, rfl⟩ := hC; exact hx) rfl) ?_
 refine qvC (fun w _ => fa182_0 rfl) ?_
 refine qvC (fun w hC => yLdB rfl isAgg3 (by obtain ⟨q, rfl⟩ := hC; exact hy) rfl) ?_
 refine qcallC call138 (.cons rfl (.cons rfl .nil)) (fun w hC => cW_Compare.mono (by rintro _ _ ⟨rfl, rfl⟩; exact ⟨rfl, hC⟩)) ?_
 refine qvC (fun w _ => fa182_1 rfl) ?_
 refine qvC (fun w hC => yLdB rfl isAgg3 (by obtain ⟨q, rfl⟩ := hC; exact hx) rfl) ?_
 refine qvC (fun w _ => fa182_1 rfl) ?_
 refine qvC (fun w hC => yLdB rfl isAgg3 (by obtain ⟨q, rfl⟩ := hC; exact hy) rfl) ?_
 refine qcallC call138 (.cons rfl (.cons rfl .nil)) (fun w hC => cW_Compare.mono (by rintro _ _ ⟨rfl, rfl⟩; exact ⟨rfl, hC⟩)) ?_
 refine qtlC ?_
 rintro w ⟨q, rfl⟩
 refine sv (yBSW underlying39 sizeOf3 rfl zeroValue3 rfl (.cons rfl rfl (.cons rfl rfl .nil)) rfl) ?_
 refine scall call137 (.cons rfl .nil) (cW_Or (l := [cmpI x.1 y.1, cmpI x.2 y.2]) (heap_alloc_new _ _) (Nat.le_of_ble_eq_true rfl)) ?_
 rintro _ _ ⟨rfl, rfl⟩
 refine sv (yAsg rfl) <| nil <| cwQ ?_
 refine wp_ret (retQ (res1 rfl rfl) ?_)
 refine ⟨rfl, q, #[.cells (encE x).toArray 182 (0, 0), .cells (encE y).toArray 182 (0, 0), .cells ([cmpI x.1 y.1, cmpI x.2 y.2].map (Value.int .i64)).toArray 3 (0, 0)], ?_⟩
 rw [hw2]
 exact grow3 _ _ _ _ _

end Go.Proofs.YtgidbailiababaaGreatDoor

/- part Sk14 -/
namespace Go.Proofs.YtgidbailiababaaGreatDoor
open Go Bx Go.Proofs.Tryz
open Go.Shelf Go.RowKit Go.Lib Go.Sort
theorem lt_cmpE : ltOf cmpE = ltE := by funext x y; exact cmpE_lt x y
theorem c_SortEnds {v : Value} {n : Nat} {l : List (Int × Int)} {w0 : World} (hr : w0.ownsRow 0 182 2 v n (l.flatMap encE)) (hl : l.length = n) (hn : n ≤ 1000) :
  CE Tryz.prog 135 #[v, .func (.func 136) #[] #[]] w0 (fun u w' => u = .tuple #[] ∧ w0.grownBy w' v.ownBlock ∧ w'.ownsRow 0 182 2 v n ((sortE l).flatMap encE)) := by
 rcases id hr.2 with ⟨rfl, rfl⟩ | ⟨gb, cap, cur, rfl, -, hg, hnc, hcap, hcs, ht⟩
 ·
  have h := AnyF.slices_SortFunc_none (P := Tryz.prog) sortEnds none 0 (.func (.func 136) #[] #[]) w0
  refine Calls.mono h ?_
  rintro e w' ⟨rfl, rfl⟩
  obtain rfl : l = [] := List.eq_nil_of_length_eq_zero hl
  exact ⟨_, rfl, rfl, ⟨rfl, rfl, rfl, Nat.le_refl _, fun _ _ _ => rfl⟩, by rw [show sortE [] = [] from by simp [sortE]]; exact hr⟩
 ·
  have hcmp : CmpLays Tryz.prog 136 #[] encE 2 cmpE gb 0 l.toArray.size w0 := by
   intro m os dk _ x y
   rw [Array.append_empty]
   refine Calls.mono (c_pieces1 (x := x) (y := y)) ?_
   rintro e w' ⟨_, rfl, rfl, q, os', rfl⟩
   exact ⟨rfl, q, os', rfl⟩
  have hO : SWO (ltOf cmpE) := by rw [lt_cmpE]; exact ⟨ltE_irr, ltE_trans, ltE_ntrans⟩
  have h := AnyQ.slices_SortFunc_total sortEnds 2 isAgg182 sizeOf182 encE (fun _ => rfl) (fun x v hv => by simp [encE] at hv; rcases hv with rfl | rfl <;> rfl) cmpE hO 136 #[] gb 0 cap l.toArray w0 call136 hcmp (holds_row hg hcs hnc hl ht) (lt_of_heap hg) (by simp; omega) (by rw [lt_cmpE]; exact ltE_tot)
  have hs : l.toArray.size = n := by simp [hl]
  rw [hs] at h
  refine Calls.mono h ?_
  rintro e w' ⟨rfl, m, os, rfl⟩
  have hm : (l.toArray.toList.mergeSort fun x y => !(ltOf cmpE) y x) = sortE l := by rw [lt_cmpE]; rfl
  rw [hm]
  obtain ⟨h1, h2⟩ := sort_row (m := m) (os := os) (l := sortE l) hg hcs hnc hcap (by rw [sortE_len, hl])
  exact ⟨_, rfl, rfl, h2, h1⟩

end Go.Proofs.YtgidbailiababaaGreatDoor

/- part Sk15 -/
namespace Go.Proofs.YtgidbailiababaaGreatDoor
open Go Bx Go.Proofs.Tryz
set_option maxHeartbeats 2000000 in
theorem c_pieces {l : List Gauge} {a : Option Addr} {cap : Nat} {tick now : Int} {w0 : World} (hsl : Sl w0 5 RGauge (.slice a l.length cap) l) (hok : ∀ u ∈ l, GaugeOk u) (ht : Bd tick 0 200000) (hlen : l.length ≤ 100) : CE Tryz.prog 74 #[.slice a l.length cap, .int .i64 tick, .int .i64 now] w0 (fun v w' => St w0 w' [rowI v 128 3 (piecesF tick now l).length ((piecesF tick now l).flatMap pieceC)]) := by
 refine enterX func74 rfl ntmps74 rfl ?_
 have hS := St.start w0
 refine seqX <| regionX rfl <| sv (yAsg rfl) <| nil ?_
 show Code.wpIn _ _ _ _ _ _ _
 refine seqX <| regionX rfl ?_
 refine salloc hS zeroValue177 rfl ?_; clear hS; intro b7 w hS
 refine nil ?_
 show Code.wpIn _ _ _ _ _ _ _
 refine seqX <| seqX <| regionX rfl ?_
 replace hS := hS.nilrow 182 2
 refine sv (yMove rfl) <| sv (yMove rfl) <| sv (yMove rfl) ?_
 refine scall call134 (.cons rfl (.cons rfl (.cons rfl .nil))) c_speakers ?_
 rintro _ w ⟨p1, p2, p3, rfl, hM⟩; replace hS := hS.call hM; clear hM
 refine nil ?_
 show Code.wpIn _ _ _ _ _ _ _
 refine blockX ?_
 refine rangeX (R := [blk p3 [.int .i64 now] 3, blk p2 [.int .i64 tick] 3, blk p1 [.slice a l.length cap] 25]) (L0 := [rowI (.slice none 0 0) 182 2 0 [], blk b7 [.slice none 0 0] 177]) (ps := [20, 21]) rfl call171 hS (it_speakers hsl hok ht) (fun cc pre L => cc = none ∧ ∃ v, L = [rowI v 182 2 (endsF pre).length ((endsF pre).flatMap encE), blk b7 [v] 177]) ⟨rfl, _, rfl⟩ (fun _ _ => rfl) ?_ ?_ ?_
 ·
  clear hS
  intro yl pre x w L M hpre hcb hS
  obtain ⟨-, v, rfl⟩ := hcb
  obtain ⟨hx1, hx2, hx3, -, -⟩ := spkF_mem (hpre.subset (show x ∈ pre ++ [x] by simp))
  have hpl : pre.length ≤ 100 := by
   have h1 := hpre.length_le
   have h2 : (spk tick now l).length ≤ l.length := spkF_len tick now l 0
   simp only [List.length_append, List.length_singleton] at h1
   omega
  have hel := endsF_len pre
  replace hS : StX [] w0 w (rowI v 182 2 (endsF pre).length ((endsF pre).flatMap encE) :: blk b7 [v] 177 :: M) := hS
  refine regionX rfl ?_
  refine salloc hS zeroValue74 rfl ?_; clear hS; intro b9 w hS
  refine sst hS rfl rfl sizeOf74 rfl rfl rfl rfl ?_; clear hS; intro w hS
  refine nil ?_
  refine ⟨_, [blk b9 (spanC x.2) 74, rowI v 182 2 (endsF pre).length ((endsF pre).flatMap encE), blk b7 [v] 177], rfl, hS, ?_⟩
  clear hS M; intro M w hS; replace hS : StX [] w0 w (blk b9 (spanC x.2) 74 :: rowI v 182 2 (endsF pre).length ((endsF pre).flatMap encE) :: blk b7 [v] 177 :: M) := hS
  refine blockX <| seqX <| regionX rfl <| sv (fa74_0 rfl) <| sv (yLdB rfl isAgg3 (hS.at _) rfl) <| sv (fa74_1 rfl) <| sv (yLdB rfl isAgg3 (hS.at _) rfl) <| sv (yAdd rfl rfl ⟨by omega, by omega⟩) <| sv (yBuildA zeroValue72 rfl underlying72 sizeOf3 (.cons rfl rfl (.cons rfl rfl .nil)) rfl) ?_
  refine sv (yMove rfl) <| nil ?_
  show Code.wpIn _ _ _ _ _ _ _
  refine blockX ?_
  refine loopX (fun f w zz => ∃ (k : Nat) (v : Value), f 7 = ptQ b7 ∧ f 27 = .agg [.int .i64 x.2.lo, .int .i64 (x.2.hi + 1)].toArray ∧ f 28 = .int .i64 (k : Int) ∧ StX [] w0 w (rowI v 182 2 (endsF pre ++ (endsOf x.2).take k).length ((endsF pre ++ (endsOf x.2).take k).flatMap encE) :: blk b7 [v] 177 :: M) ∧ (k ≤ 2) ∧ zz = 2 - k) _ ⟨_, rfl, 0, v, rfl, rfl, rfl, (by simp only [List.take_zero, List.append_nil]; exact hS.sub (.cons _ lrQ)), (by omega), rfl⟩ ?_
  clear hS
  rintro f w _ ⟨k, v, h7, h27, h28, hS, hk, rfl⟩
  refine seqX <| regionX rfl <| sv (yLss h28 rfl) <| nil ?_
  show Code.wpIn _ _ _ _ _ _ _
  refine seqX ?_
  refine condX rfl (fun c29 => ?_) (fun c29 => ?_)
  ·
   simp only [BS, ne_eq] at c29
   have hk2 : k = 0 ∨ k = 1 := by omega
   refine skipX ?_
   show Code.wpIn _ _ _ _ _ _ _
   refine seqX <| blockX <| seqX <| regionX rfl <| sv (yMove h28) ?_
   refine sv (yIxV h27 h28 underlying72 sizeOf3 isAgg3 (by omega) (show [Value.int .i64 x.2.lo, .int .i64 (x.2.hi + 1)][k]? = some (.int .i64 (if k = 0 then x.2.lo else x.2.hi + 1)) by rcases hk2 with rfl | rfl <;> rfl)) ?_
   refine sv (yAsg rfl) <| sv (yAsg rfl) <| nil ?_
   show Code.wpIn _ _ _ _ _ _ _
   refine regionX rfl <| sv (yLdB h7 isAgg177 (hS.at _) rfl) <| sv (yMove rfl) <| sv (yMove rfl) <| sv (yBuild zeroValue182 rfl pl182 (.cons rfl rfl (.cons rfl rfl .nil)) rfl) ?_
   refine sbslice hS underlying177 sizeOf182 rfl zeroValue182 rfl (.cons rfl rfl .nil) rfl ?_; clear hS; intro b36 w hS
   refine sapp (bytes := 16) (size := 2) (v := v) (m := 1) hS rfl rfl underlying177 ti182 rfl rfl rfl rfl (by decide) (blk_cells (hS.at _)) rfl rfl (by simp [endsOf]; omega) (by simp [endsOf]; omega) ?_; clear hS; intro v37 w hS
   obtain ⟨gr, capr, rfl, -⟩ := row_some (hS.row v37) (Nat.succ_pos _)
   refine sst hS h7 rfl sizeOf177 rfl rfl rfl rfl ?_; clear hS; intro w hS
   refine nil ?_
   show Code.wpIn _ _ _ _ _ _ _
   refine regionX rfl <| sv (yAdd h28 rfl ⟨by omega, by omega⟩) <| sv (yMove rfl) <| nil ?_
   exact ⟨_, _, rfl, ⟨k + 1, _, h7, h27, rfl, (by rw [show endsF pre ++ (endsOf x.2).take (k + 1) = (endsF pre ++ (endsOf x.2).take k) ++ [((if k = 0 then x.2.lo else x.2.hi + 1), (k : Int))] from by rcases hk2 with rfl | rfl <;> simp [endsOf]]; rw [List.flatMap_append, List.length_append]; exact hS.sub (.cons _ lrQ)), (by omega), rfl⟩, by omega⟩
  ·
   simp only [BS, ne_eq] at c29
   refine exitX ?_
   obtain rfl : k = 2 := by omega
   rw [show endsF pre ++ (endsOf x.2).take 2 = endsF (pre ++ [x]) from (endsF_snoc pre x).symm] at hS
   exact ⟨_, ⟨rfl, _, rfl⟩, hS⟩
 ·
  clear hS
  intro D w L hcb hS
  obtain ⟨-, v, rfl⟩ := hcb
  have hel := endsF_len (spk tick now l)
  have hsl2 : (spk tick now l).length ≤ l.length := spkF_len tick now l 0
  replace hS : StX [] w0 w [obj D (.deferred (some [])), rowI v 182 2 (endsF (spk tick now l)).length ((endsF (spk tick now l)).flatMap encE), blk b7 [v] 177] := hS
  show Code.wpIn _ _ _ _ _ _ _
  refine seqX <| regionX rfl <| sv (yLdB rfl isAgg177 (hS.at _) rfl) ?_
  refine scall call135 (.cons rfl (.cons rfl .nil)) (c_SortEnds (hS.row v) rfl (by omega)) ?_
  rintro _ w ⟨rfl, hG, hR⟩; replace hS := hS.app (v := v) (v' := v) hR hG (.inl rfl); clear hG hR
  obtain ⟨SS, hSS⟩ : ∃ SS, SS = sortE (endsF (spk tick now l)) := ⟨_, rfl⟩
  have hSl : (endsF (spk tick now l)).length = SS.length := by rw [hSS, sortE_len]
  have hSo : ∀ x ∈ SS, EndOk x := by rw [hSS]; exact sorted_ok
  rw [← hSS, hSl] at hS
  rw [hSl] at hel
  obtain ⟨ae, ce, rfl⟩ := row_shape (hS.row v)
  refine nil ?_
  show Code.wpIn _ _ _ _ _ _ _
  refine seqX <| regionX rfl <| sv (yAsg rfl) <| nil ?_
  show Code.wpIn _ _ _ _ _ _ _
  refine seqX <| regionX rfl <| sv (yAsg rfl) <| nil ?_
  show Code.wpIn _ _ _ _ _ _ _
  refine seqX <| seqX <| regionX rfl <| sv (yLdB rfl isAgg177 (hS.at _) rfl) <| sv (yLen rfl underlying177) <| sv (yMove rfl) <| nil ?_
  show Code.wpIn _ _ _ _ _ _ _
  refine blockX <| loopX (fun f w zz => ∃ (k : Nat) (m : Int) (ov : Value) (outs : List (Span × Int)), f 7 = ptQ b7 ∧ f 12 = ov ∧ f 13 = .int .i64 m ∧ f 41 = .slice ae SS.length ce ∧ f 42 = .int .i64 (SS.length : Int) ∧ f 43 = .int .i64 (k : Int) ∧ StX [] w0 w [rowI ov 128 3 outs.length (outs.flatMap pieceC), obj D (.deferred (some [])), rowI (.slice ae SS.length ce) 182 2 SS.length (SS.flatMap encE), blk b7 [.slice ae SS.length ce] 177] ∧ (k ≤ SS.length) ∧ (Bd m (-(k : Int)) k) ∧ (outs.length ≤ k) ∧ (piecesL SS 0 = outs ++ piecesL (SS.drop k) m) ∧ zz = SS.length - k) _ ⟨_, rfl, 0, 0, _, [], rfl, rfl, rfl, rfl, rfl, rfl, (hS.nilrow 128 3), (Nat.zero_le _), (⟨by decide, by decide⟩), (Nat.le_refl _), (rfl), rfl⟩ ?_
  clear hS
  rintro f w _ ⟨k, m, ov, outs, h7, h12, h13, h41, h42, h43, hS, hk, hm, hoL, hI, rfl⟩
  refine seqX <| regionX rfl <| sv (yLss h43 h42) <| nil ?_
  show Code.wpIn _ _ _ _ _ _ _
  refine seqX ?_
  refine condX rfl (fun c44 => ?_) (fun c44 => ?_)
  ·
   simp only [BS, ne_eq] at c44
   obtain ⟨x, hx, hd⟩ := drop_of (l := SS) (k := k) (by omega)
   obtain ⟨ge, hae, hce⟩ := row_get (hS.row (.slice ae SS.length ce)) (by omega)
   obtain ⟨hxb, hxk⟩ := hSo x (List.mem_of_getElem? hx)
   have hxk2 : 0 ≤ x.2 ∧ x.2 ≤ 1 := by omega
   obtain ⟨y, hyk⟩ : ∃ y, k + 1 < SS.length → SS[k + 1]? = some y := by
    by_cases hq : k + 1 < SS.length
    ·
     exact ⟨SS[k + 1], fun _ => List.getElem?_eq_getElem hq⟩
    ·
     exact ⟨(0, 0), fun h => absurd h hq⟩
   refine skipX ?_
   show Code.wpIn _ _ _ _ _ _ _
   refine seqX <| blockX <| seqX <| regionX rfl <| sv (yMove h43) <| sv (yIxQ h41 hae h43 runUnderlying177 sizeOf182) <| sv (yLdA rfl isAgg182 sizeOf182 (flat_cells encE_len (row_at (hS.row (.slice ae SS.length ce)) hae (by omega)) hx) rfl) ?_
   refine salloc hS zeroValue182 rfl ?_; clear hS; intro b15 w hS
   refine sv (yAsg rfl) ?_
   refine sst hS rfl rfl sizeOf182 rfl rfl rfl rfl ?_; clear hS; intro w hS
   refine nil ?_
   show Code.wpIn _ _ _ _ _ _ _
   refine seqX <| regionX rfl <| sv (yMove h13) <| sv (fa182_1 rfl) <| sv (yLdB rfl isAgg3 (hS.at _) rfl) <| sv (yMul rfl rfl ⟨by omega, by omega⟩) <| sv (ySub rfl rfl ⟨by omega, by omega⟩) <| sv (yAdd rfl rfl ⟨by omega, by omega⟩) <| sv (yAsg rfl) ?_
   refine nil ?_
   show Code.wpIn _ _ _ _ _ _ _
   refine seqX <| region_drawX mixed (by kernel_rfl) rfl hS <| qv (fun w hS => (yMove rfl)) <| qv (fun w hS => (yAdd rfl rfl ⟨by omega, by omega⟩)) <| qv (fun w hS => (yLdB h7 isAgg177 (hS.at _) rfl)) <| qv (fun w hS => (yLen rfl underlying177)) <| qv (fun w hS => (yLss rfl rfl)) <| qv (fun w hS => (yMove rfl)) ?_
   refine qg rfl rfl rfl (fun g w hS => (yLdB h7 isAgg177 (hS.at _) rfl)) (fun v60 g60 => ?_)
   refine qg rfl rfl rfl (fun g w hS => (yMove rfl)) (fun v61 g61 => ?_)
   refine qg rfl rfl rfl (fun g w hS => (yAdd (g61.1 g) rfl ⟨by omega, by omega⟩)) (fun v62 g62 => ?_)
   refine qg rfl rfl rfl (fun g w hS => (yIxa (g60.1 g) hae (g62.1 g) runUnderlying177 sizeOf182 (by omega) (by have := of_decide_eq_true g; omega))) (fun v63 g63 => ?_)
   refine qg rfl rfl rfl (fun g w hS => (fa182_0 (g63.1 g))) (fun v64 g64 => ?_)
   refine qg rfl rfl rfl (fun g w hS => (yLd (g64.1 g) isAgg3 (((flat_cells encE_len (row_at (hS.row (.slice ae SS.length ce)) hae (by omega)) (hyk (by have := of_decide_eq_true g; omega)))).one))) (fun v65 g65 => ?_)
   refine qg rfl rfl rfl (fun g w hS => (fa182_0 rfl)) (fun v66 g66 => ?_)
   refine qg rfl rfl rfl (fun g w hS => (yLdB (g66.1 g) isAgg3 (hS.at _) rfl)) (fun v67 g67 => ?_)
   refine qg rfl rfl rfl (fun g w hS => (yGtr (g65.1 g) (g67.1 g))) (fun v68 g68 => ?_)
   refine qv (fun w hS => (yAnd rfl (fun hB => (g68.1 hB)) rfl)) ?_
   clear hS; refine qnil (fun w hS => ?_)
   show Code.wpIn _ _ _ _ _ _ _
   refine condX rfl (fun c69 => ?_) (fun c69 => ?_)
   ·
    simp only [BS, ne_eq] at c69
    obtain ⟨hk1, hxy⟩ := c69
    have hy := hyk (by omega)
    have hyb := (hSo y (List.mem_of_getElem? hy)).1
    refine region_anyX (C := (fun w => StX [] w0 w [blk b15 (encE x) 182, obj D (.deferred (some [])), rowI (.slice ae SS.length ce) 182 2 SS.length (SS.flatMap encE), blk b7 [.slice ae SS.length ce] 177])) mixed 13 15 (by kernel_rfl) rfl hS (fun _ h => h.sub (.cons_cons _ (.cons _ lrQ))) ?_
    clear hS; intro w hS
    refine hv (fun w hS => (yMove h12)) <| hv (fun w hS => (fa182_0 rfl)) <| hv (fun w hS => (yLdB rfl isAgg3 (hS.at _) rfl)) <| hv (fun w hS => (yLdB h7 isAgg177 (hS.at _) rfl)) <| hv (fun w hS => (yMove rfl)) <| hv (fun w hS => (yAdd rfl rfl ⟨by omega, by omega⟩)) <| hv (fun w hS => (yIxQ rfl hae rfl runUnderlying177 sizeOf182)) <| hv (fun w hS => (fa182_0 rfl)) <| hv (fun w hS => (yLd rfl isAgg3 (((flat_cells encE_len (row_at (hS.row (.slice ae SS.length ce)) hae (by omega)) hy)).one))) ?_
    refine hv (fun w hS => (ySub rfl rfl ⟨by omega, by omega⟩)) <| hv (fun w hS => (yBuild zeroValue74 rfl pl74 (.cons rfl rfl (.cons rfl rfl .nil)) rfl)) <| hv (fun w hS => (yMove rfl)) <| hv (fun w hS => (yBuild zeroValue128 rfl pl128 (.cons rfl rfl (.cons rfl rfl .nil)) rfl)) <| hnil <| awQ <| a1Q 13 (by kernel_rfl) rfl ?_
    refine sbslice hS underlying125 sizeOf128 rfl zeroValue128 rfl (.cons rfl rfl .nil) rfl ?_; clear hS; intro b83 w hS
    refine nil ?_
    refine ⟨fun _ => hS.sub (List.Sublist.trans (.cons_cons _ (.cons _ lrQ)) (.cons _ lrQ)), ?_⟩
    refine awQ <| a1Q 14 (by kernel_rfl) rfl ?_
    refine sapp (bytes := 24) (size := 3) (v := ov) (m := 1) hS rfl rfl underlying125 ti128 rfl rfl rfl rfl (by decide) (blk_cells (hS.at _)) rfl rfl (by omega) (by omega) ?_; clear hS; intro v84 w hS
    refine nil ?_
    refine ⟨fun _ => hS.sub (List.Sublist.trans (.cons_cons _ (.cons _ lrQ)) (.cons _ lrQ)), ?_⟩
    refine awQ <| a1Q 15 (by kernel_rfl) rfl <| sv (yAsg rfl) <| nil ?_
    refine ⟨fun h => absurd h (by decide), ?_⟩
    refine awQ <| a_end (by kernel_rfl) ?_
    show Code.wpIn _ _ _ _ _ _ _
    refine regionX rfl <| sv (yAdd h43 rfl ⟨by omega, by omega⟩) <| sv (yMove rfl) <| nil ?_
    exact ⟨_, _, rfl, ⟨k + 1, m + (1 - 2 * x.2), _, outs ++ [((⟨x.1, y.1 - 1⟩ : Span), m + (1 - 2 * x.2))], h7, rfl, rfl, h41, h42, rfl, (by rw [List.flatMap_append, List.length_append]; exact hS.sub (.cons _ (.cons _ lrQ))), (by omega), (⟨by omega, by omega⟩), (by simp; omega), (by rw [hI, pieces_step hx, hy]; simp only [stepP]; rw [if_pos hxy, List.append_assoc]), rfl⟩, by omega⟩
   ·
    simp only [BS, ne_eq] at c69
    have hno : stepP x m SS[k + 1]? = [] := by
     cases hq : SS[k + 1]? with
     | none => rfl
     | some y2 =>
      have hk1 : k + 1 < SS.length := (List.getElem?_eq_some_iff.1 hq).1
      have hy2 := hyk hk1
      rw [hq] at hy2
      cases hy2
      simp only [stepP]
      rw [if_neg (by omega)]
    refine skipX ?_
    show Code.wpIn _ _ _ _ _ _ _
    refine regionX rfl <| sv (yAdd h43 rfl ⟨by omega, by omega⟩) <| sv (yMove rfl) <| nil ?_
    exact ⟨_, _, rfl, ⟨k + 1, m + (1 - 2 * x.2), _, outs, h7, h12, rfl, h41, h42, rfl, (hS.sub (.cons _ lrQ)), (by omega), (⟨by omega, by omega⟩), (by omega), (by rw [hI, pieces_step hx, hno]; rfl), rfl⟩, by omega⟩
  ·
   simp only [BS, ne_eq] at c44
   obtain rfl : k = SS.length := by omega
   rw [List.drop_length] at hI
   have hfin : piecesF tick now l = outs := by unfold piecesF; rw [← hSS, hI]; simp [piecesL]
   refine exitX ?_
   show Code.wpIn _ _ _ _ _ _ _
   refine seqX <| regionX rfl <| sv (yMove h12) <| sv (yAsg rfl) <| nil ?_
   show Code.wpIn _ _ _ _ _ _ _
   refine wpIn_ret ?_
   refine leafD hS (fun w hS => (res1 rfl rfl)) (fun w hS => ?_)
   show St w0 w [_]
   rw [hfin]
   exact hS.sub (.cons_cons _ (List.nil_sublist _))
 ·
  intro D w L c pre hcb hS; exact absurd hcb.1 (by simp)
end Go.Proofs.YtgidbailiababaaGreatDoor

/- part Sk16 -/
namespace Go.Proofs.YtgidbailiababaaGreatDoor
open Go Bx Go.Proofs.Tryz
theorem c_IndexFuncP {l : List (Span × Int)} {p : Span × Int → Bool} {v : Value} {g : Nat} {cl : List Value} {w0 : World} (hsl : Sl w0 3 (fun (_ : World) cs x => cs = pieceC x ∧ True) v l) (hcall : ∀ ys w, (callFunc g ys).run Tryz.prog w = .ok (.enter g ys) w) (hp : ∀ x w, x ∈ l → Ext w0 w → CV Tryz.prog g (.agg (pieceC x).toArray :: cl).toArray w (.bool (p x))) : CV Tryz.prog 133 #[v, .func (.func g) #[] cl.toArray] w0 (.int .i64 (idxF p l 0)) := by
 obtain ⟨a, cap, rfl, hcap, hmx, hel⟩ := hsl
 refine enter func133 rfl ntmps133 rfl ?_
 have hS := St.start w0
 refine seq <| region <| sv (yAsg rfl) <| nil <| cwQ <| seq <| seq <| region <| sv (yMove rfl) ?_
 refine sv (yLen rfl underlying125) <| sv (yMove rfl) <| nil <| cwQ <| block <| loop (fun f w zz => ∃ (k : Nat), f 0 = .slice a l.length cap ∧ f 1 = .func (.func g) #[] cl.toArray ∧ f 7 = .int .i64 (l.length : Int) ∧ f 8 = .int .i64 (k : Int) ∧ StX [] w0 w [] ∧ (k ≤ l.length) ∧ (idxF p l 0 = idxF p (l.drop k) k) ∧ zz = l.length - k) _ ⟨_, rfl, 0, rfl, rfl, rfl, rfl, hS, (Nat.zero_le _), (rfl), rfl⟩ ?_
 clear hS
 rintro f w _ ⟨k, h0, h1, h7, h8, hS, hk, hI, rfl⟩
 refine seq <| region <| sv (yLss h8 h7) <| nil <| cwQ <| seq ?_
 refine cond rfl (fun c9 => ?_) (fun c9 => ?_)
 ·
  simp only [BS, ne_eq] at c9
  refine skip <| cwQ <| seq <| block <| seq <| region <| sv (yMove h8) <| sv (yAsg rfl) <| nil ?_
  refine cwQ <| seq <| region ?_
  obtain ⟨x, hx, hd⟩ := drop_of (l := l) (k := k) (by omega)
  obtain ⟨b, o, cs, ha, hlen, hcs, hR⟩ := hel k (by omega)
  obtain rfl : x = l[k] := (List.getElem?_eq_some_iff.1 hx).2.symm
  obtain ⟨rfl, -⟩ := hR
  refine sv (yMove h1) <| sv (yMove h0) <| sv (yMove rfl) <| sv (yIxQ rfl ha rfl runUnderlying125 sizeOf128) <| sv (yLdA rfl isAgg128 sizeOf128 (hcs.ext hS.ext) rfl) ?_
  refine scallf rfl hcall (.cons rfl .nil) (hp _ _ (List.getElem_mem _) hS.ext) ?_
  rintro _ w ⟨rfl, hE⟩; replace hS := hS.step hE; clear hE
  refine nil <| cwQ ?_
  refine cond rfl (fun c16 => ?_) (fun c16 => ?_)
  ·
   refine seq <| region <| sv (yMove rfl) <| sv (yAsg rfl) <| nil <| cwQ ?_
   refine wp_ret (blockR (thenR (thenR (blockR (thenR ?_)))))
   exact retV (res1 rfl (by rw [hI, hd, idxF, if_pos c16]; rfl)) hS.ext
  ·
   refine skip <| cwQ <| region <| sv (yAdd h8 rfl ⟨by omega, by omega⟩) <| sv (yMove rfl) <| nil ?_
   exact ⟨_, _, rfl, ⟨k + 1, h0, h1, h7, rfl, hS, (by omega), (by rw [hI, hd, idxF, if_neg (by simp [c16])]; rfl), rfl⟩, by omega⟩
 ·
  simp only [BS, ne_eq] at c9
  refine exit <| cwQ <| seq <| region <| sv (yAsg rfl) <| nil <| cwQ ?_
  obtain rfl : k = l.length := by omega
  refine wp_ret ?_
  exact retV (res1 rfl (by rw [hI, List.drop_length]; rfl)) hS.ext
set_option maxHeartbeats 2000000 in
theorem c_DeleteFuncP {l : List (Span × Int)} {p : Span × Int → Bool} {a : Option Addr} {cap g : Nat} {cl : List Value} {w0 : World} (hr : w0.ownsRow 0 128 3 (.slice a l.length cap) l.length (l.flatMap pieceC)) (hcall : ∀ ys w, (callFunc g ys).run Tryz.prog w = .ok (.enter g ys) w) (hp : ∀ x w, x ∈ l → ExtX (Value.slice a l.length cap).ownBlock.toList w0 w → CV Tryz.prog g (.agg (pieceC x).toArray :: cl).toArray w (.bool (p x))) (hlen : l.length ≤ 1000) : CE Tryz.prog 73 #[.slice a l.length cap, .func (.func g) #[] cl.toArray] w0 (fun u w' => u = .slice a (l.filter fun x => !p x).length cap ∧ StX (Value.slice a l.length cap).ownBlock.toList w0 w' [rowI (.slice a (l.filter fun x => !p x).length cap) 128 3 (l.filter fun x => !p x).length ((l.filter fun x => !p x).flatMap pieceC)]) := by
 refine enter func73 rfl ntmps73 rfl ?_
 have hS := StX.startR hr
 refine seq <| region <| sv (yAsg rfl) <| nil <| cwQ <| seq <| region <| sv (yMove rfl) <| sv (yMove rfl) ?_
 refine scV hS call133 (.cons rfl (.cons rfl .nil)) (c_IndexFuncP (row_sl flat3 (hS.row (.slice a l.length cap)) (fun _ _ => trivial)) hcall (fun x w hx e => hp x w hx (hS.extx.trans e))) ?_; clear hS; intro w hS
 have hix := idxF_spec p l 0 (Int.le_refl 0)
 generalize idxF p l 0 = ix at hix ⊢
 refine sv (yAsg rfl) <| nil <| cwQ <| seq <| seq <| region <| sv (yMove rfl) <| sv (yEql rfl rfl) <| nil ?_
 refine cwQ ?_
 refine cond rfl (fun c12 => ?_) (fun c12 => ?_)
 ·
  simp only [BS, ne_eq] at c12
  have hfl : (l.filter fun x => !p x) = l := by
   rcases hix with ⟨-, h⟩ | ⟨k, -, h, -⟩
   ·
    exact h
   ·
    omega
  refine seq <| region <| sv (yMove rfl) <| sv (yAsg rfl) <| nil <| cwQ ?_
  refine wp_ret (thenR ?_)
  refine retQ (res1 rfl rfl) ?_
  rw [hfl]
  exact ⟨rfl, hS⟩
 ·
  simp only [BS, ne_eq] at c12
  obtain ⟨i0, hi0, hie, hi1, z, hz, hpz⟩ := hix.resolve_left (fun h => c12 h.1)
  obtain ⟨gb, rfl, -⟩ := row_get (hS.row (.slice a l.length cap)) (by omega)
  obtain rfl : ix = (i0 : Int) := by omega
  have hcap : l.length ≤ cap := by
   obtain ⟨g2, c2, e2, h2, -⟩ := row_some (hS.row (.slice (some ⟨gb, 0, none⟩) l.length cap)) (by omega)
   obtain ⟨-, rfl⟩ := slice_inj e2
   exact h2
  refine skip <| cwQ <| seq <| seq <| region <| sv (yMove rfl) <| sv (yAdd rfl rfl ⟨by omega, by omega⟩) <| sv (yAsg rfl) <| nil ?_
  refine cwQ <| block ?_
  have htl : (l.take i0).length = i0 := by simp; omega
  refine loop (fun f w zz => ∃ (ks js : PL) (j : Nat), f 0 = .slice (some ⟨gb, 0, none⟩) l.length cap ∧ f 1 = .func (.func g) #[] cl.toArray ∧ f 5 = .int .i64 (ks.length : Int) ∧ f 6 = .int .i64 (j : Int) ∧ StX (Value.slice (some ⟨gb, 0, none⟩) l.length cap).ownBlock.toList w0 w ([rowI (.slice (some ⟨gb, 0, none⟩) l.length cap) 128 3 l.length ((ks ++ js ++ l.drop j).flatMap pieceC)]) ∧ (j ≤ l.length) ∧ (ks.length + js.length = j) ∧ (js ≠ []) ∧ ((l.filter fun x => !p x) = ks ++ (l.drop j).filter fun x => !p x) ∧ zz = l.length - j) _ ⟨_, rfl, l.take i0, [z], i0 + 1, rfl, rfl, (by rw [htl]; exact rfl), rfl, (by rw [cut_at hz]; exact hS), (by omega), (by rw [htl]; rfl), (by simp), (filter_at hz hi1 hpz), rfl⟩ ?_
  clear hS
  rintro f w _ ⟨ks, js, j, h0, h1, h5, h6, hS, hj, hl, hne, hI, rfl⟩
  refine seq <| seq <| region <| sv (yMove h6) <| sv (yMove h0) <| sv (yLen rfl underlying125) <| sv (yLss rfl rfl) <| nil <| cwQ ?_
  refine cond rfl (fun c19 => ?_) (fun c19 => ?_)
  ·
   simp only [BS, ne_eq] at c19
   obtain ⟨x, hx, hd⟩ := drop_of (l := l) (k := j) (by omega)
   refine skip <| cwQ <| seq <| block <| seq <| region <| sv (yMove h0) <| sv (yMove h6) <| sv (yIx0 rfl rfl runUnderlying125 sizeOf128 (by omega)) ?_
   refine sv (yLdA rfl isAgg128 sizeOf128 (flat_cells0 pieceC_len (row_at (hS.row (.slice (some ⟨gb, 0, none⟩) l.length cap)) rfl (by omega)) (mid_get hl hx)) rfl) ?_
   refine salloc hS zeroValue128 rfl ?_; clear hS; intro b7 w hS
   refine sst hS rfl rfl sizeOf128 rfl rfl rfl rfl ?_; clear hS; intro w hS
   refine nil <| cwQ <| seq <| region <| sv (yMove h1) <| sv (yLdBA rfl isAgg128 sizeOf128 (hS.at _) rfl rfl) ?_
   refine scallf rfl hcall (.cons rfl .nil) (hp x _ (List.mem_of_getElem? hx) hS.extx) ?_
   rintro _ w ⟨rfl, hE⟩; replace hS := hS.step hE; clear hE
   refine sv (yNot rfl) <| nil <| cwQ ?_
   refine cond rfl (fun c29 => ?_) (fun c29 => ?_)
   ·
    simp only [Bool.not_eq_true', Bool.not_eq_false', Bool.not_eq_true, Bool.not_eq_false] at c29
    refine seq <| region <| sv (yMove h0) <| sv (yMove h5) <| sv (yLdBA rfl isAgg128 sizeOf128 (hS.at _) rfl rfl) ?_
    refine sv (yIx0 rfl rfl runUnderlying125 sizeOf128 (by have := List.length_pos_iff.2 hne; omega)) ?_
    refine srst (m := l.length) (cap := cap) (sz := 3) hS rfl rfl sizeOf128 rfl rfl (by have := List.length_pos_iff.2 hne; omega) rfl ?_; clear hS; intro w hS
    refine nil <| cwQ <| region <| sv (yMove h5) <| sv (yAdd rfl rfl ⟨by omega, by omega⟩) <| sv (yAsg rfl) <| nil <| cwQ <| region ?_
    refine sv (yMove h6) <| sv (yAdd rfl rfl ⟨by omega, by omega⟩) <| sv (yAsg rfl) <| nil ?_
    exact ⟨_, _, rfl, ⟨ks ++ [x], js.tail ++ [x], j + 1, h0, h1, (by rw [List.length_append]; exact rfl), rfl, (by rw [gap_out hx hne]; exact hS.sub (.cons _ lrQ)), (by omega), (by simp; have := List.length_pos_iff.2 hne; omega), (by simp), (by rw [hI, hd, List.filter_cons_of_pos (by simpa using c29)]; simp), rfl⟩, by omega⟩
   ·
    simp only [Bool.not_eq_true', Bool.not_eq_false', Bool.not_eq_true, Bool.not_eq_false] at c29
    refine skip <| cwQ <| region <| sv (yMove h6) <| sv (yAdd rfl rfl ⟨by omega, by omega⟩) <| sv (yAsg rfl) <| nil ?_
    exact ⟨_, _, rfl, ⟨ks, js ++ [x], j + 1, h0, h1, h5, rfl, (by rw [gap_in hx]; exact hS.sub (.cons _ lrQ)), (by omega), (by simp; omega), (by simp), (by rw [hI, hd, List.filter_cons_of_neg (by simp [c29])]), rfl⟩, by omega⟩
  ·
   simp only [BS, ne_eq] at c19
   obtain rfl : j = l.length := by omega
   rw [List.drop_length] at hI
   have hfin : (l.filter fun x => !p x) = ks := by rw [hI]; simp
   refine exit <| cwQ <| seq <| region <| sv (yMove h0) <| sv (yMove h5) <| sv (yTail rfl rfl underlying125 sizeOf128 (by omega)) ?_
   refine sclear (i := ks.length) (m := l.length) hS rfl underlying125 zeroValue128 rfl (by decide) (by decide) (by omega) ?_; clear hS; intro w hS
   refine nil <| cwQ <| seq <| region <| sv (yMove h0) <| sv (yMove h5) <| sv (yHead ⟨_, rfl⟩ rfl rfl underlying125 sizeOf128 (by omega)) <| sv (yAsg rfl) <| nil ?_
   refine cwQ <| wp_ret <| retQ (res1 rfl rfl) ?_
   rw [hfin]
   rw [List.append_assoc, take_flat] at hS
   exact ⟨rfl, hS⟩
end Go.Proofs.YtgidbailiababaaGreatDoor

/- part Sk17 -/
namespace Go.Proofs.YtgidbailiababaaGreatDoor
open Go Bx Go.Proofs.Tryz
theorem c_Sound1 {x : Span × Int} {b b2 len cap : Nat} {a : Option Addr} {T T2 : TypeId} {wrong : Int} {w0 : World} (hb : w0.heap[b]? = some (.cells [.slice a len cap].toArray T (0, 0))) (h2 : w0.heap[b2]? = some (.cells [.int .i64 wrong].toArray T2 (0, 0))) (hI : I64 ((len : Int) - wrong)) : CV Tryz.prog 75 #[.agg (pieceC x).toArray, ptQ b, ptQ b2] w0 (.bool (decide (x.2 < (len : Int) - wrong))) := by
 refine enter func75 rfl ntmps75 rfl ?_
 have hS := St.start w0
 refine seq <| region ?_
 refine sbox hS rfl rfl ?_; clear hS; intro b3 w hS
 refine sv (yAsg rfl) <| nil <| cwQ <| seq <| region <| sv (fa128_1 rfl) <| sv (yLdB rfl isAgg3 (hS.at _) rfl) <| sv (yLdB rfl isAgg25 (hS.ext.get hb) rfl) <| sv (yLen rfl underlying25) ?_
 refine sv (yLdB rfl isAgg3 (hS.ext.get h2) rfl) <| sv (ySub rfl rfl hI) <| sv (yLss rfl rfl) <| sv (yAsg rfl) <| nil <| cwQ <| wp_ret ?_
 exact retV (res1 rfl rfl) hS.ext
set_option maxHeartbeats 2000000 in
theorem c_Sound {l : List Gauge} {v : Value} {wrong t now : Int} {w0 : World} (hl : Sl w0 5 RGauge v l) (hw : I64 wrong) (ht : I64 t) (hn : I64 now) : CV Tryz.prog 29 #[v, .int .i64 wrong, .int .i64 t, .int .i64 now] w0 (.tuple #[.agg (spanC (soundF l wrong t now).1).toArray, .int .i64 (soundF l wrong t now).2]) := by
 obtain ⟨a, cap, rfl, hcap, hmx, hel⟩ := id hl
 refine enter func29 rfl ntmps29 rfl ?_
 have hS := St.start w0
 refine seq <| region ?_
 refine sbox hS rfl rfl ?_; clear hS; intro b4 w hS
 refine sbox hS rfl rfl ?_; clear hS; intro b5 w hS
 refine salloc hS zeroValue74 rfl ?_; clear hS; intro b8 w hS
 refine sv (yAsg rfl) <| nil <| cwQ <| seq <| region <| sv (yLdB rfl isAgg25 (hS.at _) rfl) <| sv (yMove rfl) <| sv (yMove rfl) ?_
 refine scV hS call71 (.cons rfl (.cons rfl (.cons rfl .nil))) (c_gauges (hl.ext RGauge.stays hS.ext) ht hn) ?_; clear hS; intro w hS
 refine sv (yAsg rfl) <| nil <| cwQ <| seq <| block <| seq <| region <| sv (yMove rfl) <| sv (yNeq rfl rfl) ?_
 refine sv (yAsg rfl) <| nil <| cwQ ?_
 refine cond rfl (fun c16 => ?_) (fun c16 => ?_)
 ·
  have c16 : gaugesE l t now ≠ 0 := of_decide_eq_true c16
  have hfin := soundF_e (soundE_g (wrong := wrong) c16) c16
  refine seq <| region <| sv (yBuild zeroValue74 rfl pl74 .nil rfl) <| sv (yMove rfl) ?_
  refine sst hS rfl rfl sizeOf74 rfl rfl rfl rfl ?_; clear hS; intro w hS
  refine sv (yAsg rfl) <| nil <| cwQ ?_
  refine wp_ret (blockR (thenR ?_))
  exact retV (resV2 rfl (rc rfl isAgg74 sizeOf74 (hS.at _) (by rw [hfin]; rfl) rfl) (rt (eqI (by rw [hfin])))) hS.ext
 ·
  have c16 : ¬ gaugesE l t now ≠ 0 := of_decide_eq_false c16
  obtain ⟨h8, hok, hnd, htk⟩ := gaugesE_zero (Classical.not_not.1 c16)
  obtain ⟨htb, hnb⟩ := ticks2b htk
  refine seq <| region <| sv (yLdB rfl isAgg3 (hS.at _) rfl) <| sv (yLdB rfl isAgg25 (hS.at _) rfl) <| sv (yLen rfl underlying25) <| sv (ySub rfl rfl ⟨by omega, by omega⟩) ?_
  refine scV hS call72 (.cons rfl (.cons rfl (.cons rfl .nil))) c_out ?_; clear hS; intro w hS
  refine sv (yAsg rfl) <| nil <| cwQ ?_
  refine cond rfl (fun c21 => ?_) (fun c21 => ?_)
  ·
   have hfin := soundF_e (soundE_w c16 c21) (by decide)
   refine seq <| region <| sv (yBuild zeroValue74 rfl pl74 .nil rfl) ?_
   refine sst hS rfl rfl sizeOf74 rfl rfl rfl rfl ?_; clear hS; intro w hS
   refine sv (yAsg rfl) <| nil <| cwQ ?_
   refine wp_ret (blockR (thenR ?_))
   exact retV (resV2 rfl (rc rfl isAgg74 sizeOf74 (hS.at _) (by rw [hfin]; rfl) rfl) (rt (eqI (by rw [hfin])))) hS.ext
  ·
   have h0 := soundE_ok c16 c21
   have hwb := outB_false.1 c21
   have hI : I64 ((l.length : Int) - wrong) := ⟨by omega, by omega⟩
   refine skip <| cwQ <| seq <| region <| sv (yLdB rfl isAgg25 (hS.at _) rfl) <| sv (yMove rfl) <| sv (yMove rfl) ?_
   refine scall call74 (.cons rfl (.cons rfl (.cons rfl .nil))) (c_pieces (hl.ext RGauge.stays hS.ext) hok htb (by omega)) ?_
   rintro pv w hM; replace hS := hS.call1 hM; clear hM; obtain ⟨ap, cp, rfl⟩ := row_shape (hS.row pv)
   have hpl := piecesF_len t now l
   have hb4 : b4 ∉ (Value.slice ap (piecesF t now l).length cp).ownBlock.toList := fun h => (hS.sub (M := [rowI (.slice ap (piecesF t now l).length cp) 128 3 (piecesF t now l).length ((piecesF t now l).flatMap pieceC), blk b4 [.slice a l.length cap] 25]) (.cons_cons _ (.cons _ (.cons _ (.cons_cons _ (List.nil_sublist _)))))).apart2 h (by simp [cellI])
   have hb5 : b5 ∉ (Value.slice ap (piecesF t now l).length cp).ownBlock.toList := fun h => (hS.sub (M := [rowI (.slice ap (piecesF t now l).length cp) 128 3 (piecesF t now l).length ((piecesF t now l).flatMap pieceC), blk b5 [.int .i64 wrong] 3]) (.cons_cons _ (.cons _ (.cons_cons _ (List.nil_sublist _))))).apart2 h (by simp [cellI])
   refine sv (yFn (.cons rfl (.cons rfl .nil))) ?_
   refine scall call73 (.cons rfl (.cons rfl .nil)) (c_DeleteFuncP (l := piecesF t now l) (p := fun x => decide (x.2 < (l.length : Int) - wrong)) (cl := [ptQ b4, ptQ b5]) (hS.row (.slice ap (piecesF t now l).length cp)) call75 (fun x w _ e => c_Sound1 (e.get (hS.at b4) hb4) (e.get (hS.at b5) hb5) hI) (by omega)) ?_
   rintro u w ⟨hu, hM⟩
   have hu2 : u = .slice ap (enough ((l.length : Int) - wrong) (piecesF t now l)).length cp := hu
   subst hu2
   clear hu
   replace hM : StX (Value.slice ap (piecesF t now l).length cp).ownBlock.toList _ w [rowI (.slice ap (enough ((l.length : Int) - wrong) (piecesF t now l)).length cp) 128 3 (enough ((l.length : Int) - wrong) (piecesF t now l)).length ((enough ((l.length : Int) - wrong) (piecesF t now l)).flatMap pieceC)] := hM
   replace hS := hS.app (v := .slice ap (piecesF t now l).length cp) (v' := .slice ap (enough ((l.length : Int) - wrong) (piecesF t now l)).length cp) (hM.row _) hM.grown (.inl own_slice)
   clear hM hb4 hb5
   generalize hee : enough ((l.length : Int) - wrong) (piecesF t now l) = ee at hS ⊢
   refine sv (yAsg rfl) <| nil <| cwQ <| seq <| seq <| region <| sv (yMove rfl) <| sv (yLen rfl underlying125) <| sv (yEql rfl rfl) ?_
   refine nil <| cwQ ?_
   refine cond rfl (fun c36 => ?_) (fun c36 => ?_)
   ·
    simp only [BS, ne_eq] at c36
    obtain rfl : ee = [] := List.eq_nil_of_length_eq_zero (by omega)
    have hfin : soundF l wrong t now = (⟨0, 0⟩, 9) := by rw [soundF_ok h0, hee]; rfl
    refine seq <| region <| sv (yBuild zeroValue74 rfl pl74 .nil rfl) ?_
    refine sst hS rfl rfl sizeOf74 rfl rfl rfl rfl ?_; clear hS; intro w hS
    refine sv (yAsg rfl) <| nil <| cwQ ?_
    refine wp_ret (thenR ?_)
    exact retV (resV2 rfl (rc rfl isAgg74 sizeOf74 (hS.at _) (by rw [hfin]; rfl) rfl) (rt (eqI (by rw [hfin])))) hS.ext
   ·
    simp only [BS, ne_eq] at c36
    have hne : ee ≠ [] := fun h => by rw [h] at c36; simp at c36
    have hpos := List.length_pos_iff.2 hne
    have heel : ee.length ≤ (piecesF t now l).length := by rw [← hee]; exact List.length_filter_le _ _
    have hfin : soundF l wrong t now = (⟨(ee.getD 0 (⟨0, 0⟩, 0)).1.lo, (ee.getD (ee.length - 1) (⟨0, 0⟩, 0)).1.hi⟩, 0) := by rw [soundF_ok h0, hee, soundP_some hne]
    obtain ⟨gp, rfl, -⟩ := row_get (hS.row (.slice ap ee.length cp)) hpos
    refine skip <| cwQ <| seq <| region_tail mixed 14 (by kernel_rfl) hS <| qv (fun w hS => (yMove rfl)) <| qv (fun w hS => (yIx0 (m := 0) rfl rfl runUnderlying125 sizeOf128 (by omega))) <| qv (fun w hS => (fa128_0 rfl)) <| qv (fun w hS => (fa74_0 rfl)) <| qv (fun w hS => (yLd rfl isAgg3 ((flat_cells0 pieceC_len (row_at (hS.row (.slice (some ⟨gp, 0, none⟩) ee.length cp)) rfl (by omega)) (getD_some (d := (⟨0, 0⟩, 0)) hpos)).at (j := 0) rfl))) ?_
    refine qv (fun w hS => (yMove rfl)) <| qv (fun w hS => (yMove rfl)) <| qv (fun w hS => (yLen rfl underlying125)) ?_
    refine qv (fun w hS => (Y.to (ySub rfl rfl ⟨by omega, by omega⟩) (show Value.int .i64 ((ee.length : Int) - 1) = .int .i64 ((ee.length - 1 : Nat) : Int) by congr 1; omega))) ?_
    refine qv (fun w hS => (yIx0 (m := ee.length - 1) rfl rfl runUnderlying125 sizeOf128 (by omega))) <| qv (fun w hS => (fa128_0 rfl)) <| qv (fun w hS => (fa74_1 rfl)) <| qv (fun w hS => (yLd rfl isAgg3 ((flat_cells0 pieceC_len (row_at (hS.row (.slice (some ⟨gp, 0, none⟩) ee.length cp)) rfl (by omega)) (getD_some (d := (⟨0, 0⟩, 0)) (show ee.length - 1 < ee.length by omega))).at (j := 1) rfl))) <| qv (fun w hS => (yBuild zeroValue74 rfl pl74 (.cons rfl rfl (.cons rfl rfl .nil)) rfl)) ?_
    clear hS; refine qtl (fun w hS => ?_)
    refine sst hS rfl rfl sizeOf74 rfl rfl rfl rfl ?_; clear hS; intro w hS
    refine sv (yAsg rfl) <| nil <| cwQ <| wp_ret ?_
    exact retV (resV2 rfl (rc rfl isAgg74 sizeOf74 (hS.at _) (by rw [hfin]; rfl) rfl) (rt (eqI (by rw [hfin])))) hS.ext
end Go.Proofs.YtgidbailiababaaGreatDoor

