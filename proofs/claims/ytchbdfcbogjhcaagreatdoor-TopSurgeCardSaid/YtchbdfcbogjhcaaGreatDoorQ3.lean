/- Merged texts, part 3. -/
import Derived.Test.YtchbdfcbogjhcaaGreatDoorQ2
import Derived.Shelf.SlSortCmp.NoneTotal
import Derived.Shelf.SlGeneric
import Derived.Ground.SlsfProg
import Derived.Test.YtchbdfcbogjhcaaGreatDoorProg
set_option linter.all false
set_option maxHeartbeats 8000000
namespace Go.Proofs.YtchbdfcbogjhcaaGreatDoor
open Go.Shelf
def sortEnds_ren : Go.Shelf.Ren := ⟨fun | 6 => 141 | 15 => 155 | 14 => 154 | 28 => 172 | 29 => 173 | 20 => 164 | 21 => 165 | 22 => 166 | 23 => 167 | 24 => 168 | 25 => 169 | 26 => 170 | 27 => 171 | 46 => 176 | 47 => 177 | 48 => 178 | 49 => 179 | 50 => 180 | 57 => 181 | n => n, fun | 22 => 259 | 24 => 265 | 25 => 268 | 3 => 3 | 39 => 224 | 0 => 0 | 53 => 252 | 55 => 255 | 4 => 4 | 46 => 285 | 45 => 284 | 50 => 236 | 5 => 5 | 9 => 9 | 66 => 294 | 70 => 298 | 76 => 300 | 77 => 301 | n => n, fun | n => n⟩
theorem sortEnds : Go.Proofs.SlLaysF0.n6 Tryz.prog sortEnds_ren := {
 mixed := by kernel_rfl
 f6 := ⟨Tryz.f141.name, by decide, Tryz.func141.trans (congrArg some (by kernel_rfl))⟩
 f14 := ⟨Tryz.f154.name, by decide, Tryz.func154.trans (congrArg some (by kernel_rfl))⟩
 f15 := Tryz.func155.trans (congrArg some (by kernel_rfl))
 f20 := ⟨Tryz.f164.name, by decide, Tryz.func164.trans (congrArg some (by kernel_rfl))⟩
 f21 := ⟨Tryz.f165.name, by decide, Tryz.func165.trans (congrArg some (by kernel_rfl))⟩
 f22 := ⟨Tryz.f166.name, by decide, Tryz.func166.trans (congrArg some (by kernel_rfl))⟩
 f23 := ⟨Tryz.f167.name, by decide, Tryz.func167.trans (congrArg some (by kernel_rfl))⟩
 f24 := ⟨Tryz.f168.name, by decide, Tryz.func168.trans (congrArg some (by kernel_rfl))⟩
 f25 := ⟨Tryz.f169.name, by decide, Tryz.func169.trans (congrArg some (by kernel_rfl))⟩
 f26 := ⟨Tryz.f170.name, by decide, Tryz.func170.trans (congrArg some (by kernel_rfl))⟩
 f27 := ⟨Tryz.f171.name, by decide, Tryz.func171.trans (congrArg some (by kernel_rfl))⟩
 f28 := Tryz.func172.trans (congrArg some (by kernel_rfl))
 f29 := Tryz.func173.trans (congrArg some (by kernel_rfl))
 f46 := ⟨Tryz.f176.name, by decide, Tryz.func176.trans (congrArg some (by kernel_rfl))⟩
 f47 := Tryz.func177.trans (congrArg some (by kernel_rfl))
 f48 := Tryz.func178.trans (congrArg some (by kernel_rfl))
 f49 := ⟨Tryz.f179.name, by decide, Tryz.func179.trans (congrArg some (by kernel_rfl))⟩
 f50 := ⟨Tryz.f180.name, by decide, Tryz.func180.trans (congrArg some (by kernel_rfl))⟩
 f57 := ⟨Tryz.f181.name, by decide, Tryz.func181.trans (congrArg some (by kernel_rfl))⟩
 t0 := Tryz.underlying0
 a0 := Tryz.isAgg0
 z0 := Tryz.sizeOf0
 v0 := Tryz.zeroValue0
 t3 := Tryz.underlying3
 a3 := Tryz.isAgg3
 z3 := Tryz.sizeOf3
 v3 := Tryz.zeroValue3
 t4 := Tryz.underlying4
 a4 := Tryz.isAgg4
 z4 := Tryz.sizeOf4
 v4 := Tryz.zeroValue4
 t5 := Tryz.underlying5
 a5 := Tryz.isAgg5
 z5 := Tryz.sizeOf5
 v5 := Tryz.zeroValue5
 t9 := Tryz.underlying9
 a9 := Tryz.isAgg9
 z9 := Tryz.sizeOf9
 v9 := Tryz.zeroValue9
 t22 := Tryz.underlying259
 a22 := Tryz.isAgg259
 z22 := Tryz.sizeOf259
 v22 := Tryz.zeroValue259
 t25 := Tryz.underlying268
 a25 := Tryz.isAgg268
 z25 := Tryz.sizeOf268
 v25 := Tryz.zeroValue268
 t39 := Tryz.underlying224
 a39 := Tryz.isAgg224
 z39 := Tryz.sizeOf224
 v39 := Tryz.zeroValue224
 t45 := Tryz.underlying284
 a45 := Tryz.isAgg284
 z45 := Tryz.sizeOf284
 v45 := Tryz.zeroValue284
 t46 := Tryz.underlying285
 a46 := Tryz.isAgg285
 z46 := Tryz.sizeOf285
 v46 := Tryz.zeroValue285
 t50 := Tryz.underlying236
 a50 := Tryz.isAgg236
 z50 := Tryz.sizeOf236
 v50 := Tryz.zeroValue236
 t53 := Tryz.underlying252
 a53 := Tryz.isAgg252
 z53 := Tryz.sizeOf252
 v53 := Tryz.zeroValue252
 t55 := Tryz.underlying255
 a55 := Tryz.isAgg255
 z55 := Tryz.sizeOf255
 v55 := Tryz.zeroValue255
 t66 := Tryz.underlying294
 a66 := Tryz.isAgg294
 z66 := Tryz.sizeOf294
 v66 := Tryz.zeroValue294
 t70 := Tryz.underlying298
 a70 := Tryz.isAgg298
 z70 := Tryz.sizeOf298
 v70 := Tryz.zeroValue298
 t76 := Tryz.underlying300
 a76 := Tryz.isAgg300
 z76 := Tryz.sizeOf300
 v76 := Tryz.zeroValue300
 t77 := Tryz.underlying301
 a77 := Tryz.isAgg301
 z77 := Tryz.sizeOf301
 v77 := Tryz.zeroValue301 }
end Go.Proofs.YtchbdfcbogjhcaaGreatDoor
namespace Bx
open Go Go.RowKit
theorem cwQ {P : Program} {c : Code} {Q : Exit → Act → World → Prop} {a : Act} {w : World} (h : c.wp P Q a w) : c.wp P Q a w := h
theorem cxQ {P : Program} {F : Fence} {m : Nat} {c : Code} {Q : Exit → Act → World → Prop} {a : Act} {w : World} (h : c.wpIn F m P Q a w) : c.wpIn F m P Q a w := h
theorem yAddQ {P : Program} {ρ : Operand → Value} {w : World} {ty : TypeId} {x y : Operand} {a b : Int} {t t' : TypeId} (hx : ρ x = .int .i64 a) (hy : ρ y = .int .i64 b) (h : I64 (a + b) := by exact ⟨by omega, by omega⟩) : Y P ρ (.binOp .add t x y t') ty w (.int .i64 (a + b)) w := yAdd hx hy h
theorem ySubQ {P : Program} {ρ : Operand → Value} {w : World} {ty : TypeId} {x y : Operand} {a b : Int} {t t' : TypeId} (hx : ρ x = .int .i64 a) (hy : ρ y = .int .i64 b) (h : I64 (a - b) := by exact ⟨by omega, by omega⟩) : Y P ρ (.binOp .sub t x y t') ty w (.int .i64 (a - b)) w := ySub hx hy h
theorem lrQ {α : Type} {l : List α} : l.Sublist l := .refl _
theorem lnQ {α : Type} {l : List α} : [].Sublist l := List.nil_sublist _
theorem lcQ {α : Type} {x : α} {a b : List α} (h : a.Sublist b) : (x :: a).Sublist (x :: b) := .cons_cons _ h
theorem ldQ {α : Type} {x : α} {a b : List α} (h : a.Sublist b) : a.Sublist (x :: b) := .cons _ h
abbrev ptQ (b : Nat) : Value := .pointer (some ⟨b, 0, none⟩)
theorem yIxQ {P : Program} {ρ : Operand → Value} {w : World} {ty : TypeId} {x i : Operand} {T e : TypeId} {a : Option Addr} {b o len cap k : Nat} {kd : IntKind} {m : Int} (hx : ρ x = .slice a len cap) (ha : a = some ⟨b, o, none⟩) (hi : ρ i = .int kd m) (hu : ∀ w, (underlying T).run P w = .ok (.slice e) w)
  (hs : ∀ w, (Go.sizeOf e).run P w = .ok k w) (h0 : 0 ≤ m := by omega) (h1 : m < len := by omega) : Y P ρ (.indexAddr T x i) ty w (.pointer (some ⟨b, o + m.toNat * k, none⟩)) w := yIxa hx ha hi hu hs h0 h1
theorem scV {P : Program} {ops : Array Oper} {Q : Exit → Act → World → Prop} {n : Nat} {rest : List Oper} {f : Fr} {w w0 : World} {S : List Nat} {L : List Item} {d : Nat} {ty : TypeId} {pos : String} {af : Array Edge} {g : FuncId} {xs : List Operand} {ts : Array TypeId} {vs : List Value} {v : Value} (hS : StX S w0 w L) (hc : ∀ ars w, (callFunc g ars).run P w = .ok (.enter g ars) w) (ha : Evs (ev n f) xs vs) (hC : CV P g vs.toArray w v)
  (h : ∀ w', StX S w0 w' L → wpL P ops Q n rest (upd f d v) w') : wpL P ops Q n (⟨some d, .call ⟨.value (.func g), xs.toArray, ts⟩, ty, pos, af, none⟩ :: rest) f w := scall hc ha hC fun _ w' ⟨e, hE⟩ => by subst e; exact h w' (hS.step hE)
theorem vM {P : Program} {ops : Array Oper} {Q : Exit → Act → World → Prop} {n : Nat} {rest : List Oper} {f : Fr} {w : World} {d : Nat} {x : Operand} {ty : TypeId} {pos : String} {af : Array Edge} (h : wpL P ops Q n rest (upd f d (ev n f x)) w) : wpL P ops Q n (⟨some d, .move x, ty, pos, af, none⟩ :: rest) f w := sv (yMove rfl) h
theorem vA {P : Program} {ops : Array Oper} {Q : Exit → Act → World → Prop} {n : Nat} {rest : List Oper} {f : Fr} {w : World} {d : Nat} {x : Operand} {ty : TypeId} {pos : String} {af : Array Edge} (h : wpL P ops Q n rest (upd f d (ev n f x)) w) : wpL P ops Q n (⟨some d, .assign x, ty, pos, af, none⟩ :: rest) f w := sv (yAsg rfl) h
theorem enQ {P : Program} {n : Nat} {g : FuncId} {fn : Func} {c : Code} {args : List Value} {R : Value → World → Prop} {w : World} (hf : P.funcs[g]? = some fn) (hb : fn.body = some c) (hn : fn.ntmps = n) (hl : Nat.ble args.length n = true) (h : St w w [] → c.wp P (bodyPost P fn fun e w' => ∃ v, e = .returned v ∧ R v w') (mk n (ini args)) w) : CE P g args.toArray w R := enter hf hb hn hl (h (St.start w))
theorem sS {P : Program} {ops : Array Oper} {Q : Exit → Act → World → Prop} {n : Nat} {f : Fr} {w w0 : World} {S : List Nat} {L : List Item} {rest : List Oper} {ty : TypeId} {pos : String} {af : Array Edge} {T : TypeId} {a x : Operand} {b o k : Nat} {cs : List Value} {t : TypeId} {L' : List Item} (hS : StX S w0 w L) (hp : ev n f a = .pointer (some ⟨b, o, none⟩))
  (hs : ∀ w, (Go.sizeOf T).run P w = .ok k w) [i : AtB L b (Eq (.cells cs.toArray t (0, 0)))] [j : SetB L b (Eq (.cells (splice cs o (ev n f x).cells.toList).toArray t (0, 0))) L'] (h : ∀ w', StX S w0 w' L' → wpL P ops Q n rest f w') (hk : (ev n f x).cells.toList.length = k := by exact rfl) (ho : Nat.ble (o + k) cs.length = true := by exact rfl) (h1 : (ev n f x).cells.toList.all (·.oneCell') = true := by exact rfl) : wpL P ops Q n (⟨none, .store T a x, ty, pos, af, none⟩ :: rest) f w := sst hS hp rfl hs rfl hk ho h1 h
theorem e1 {ρ : Operand → Value} {x : Operand} {v : Value} (h : ρ x = v := by exact rfl) : Evs ρ [x] [v] := .cons h .nil
theorem e2 {ρ : Operand → Value} {x y : Operand} {v u : Value} (h : ρ x = v := by exact rfl) (h2 : ρ y = u := by exact rfl) : Evs ρ [x, y] [v, u] := .cons h (.cons h2 .nil)
theorem e3 {ρ : Operand → Value} {x y z : Operand} {v u t : Value} (h : ρ x = v := by exact rfl) (h2 : ρ y = u := by exact rfl) (h3 : ρ z = t := by exact rfl) : Evs ρ [x, y, z] [v, u, t] := .cons h (.cons h2 (.cons h3 .nil))
theorem vL {P : Program} {ops : Array Oper} {Q : Exit → Act → World → Prop} {n : Nat} {f : Fr} {w w0 : World} {S : List Nat} {L : List Item} {rest : List Oper} {d : Nat} {ty T : TypeId} {pos : String} {af : Array Edge} {x : Operand} {b o : Nat} {cs : List Value} {t : TypeId} {z : Nat × Nat} {v : Value} (hx : ev n f x = .pointer (some ⟨b, o, none⟩)) (ha : ∀ w, (isAgg T).run P w = .ok false w) (hS : StX S w0 w L) [i : AtB L b (Eq (.cells cs.toArray t z))]
  (hv : cs[o]? = some v) (h : wpL P ops Q n rest (upd f d v) w) : wpL P ops Q n (⟨some d, .load T x, ty, pos, af, none⟩ :: rest) f w := sv (yLdB hx ha (hS.at b) hv) h
theorem rvQ {P : Program} {n : Nat} {f : Fr} {w w0 : World} {L : List Item} {fn : Func} {t : Tmp} {v : Value} (hS : StX [] w0 w L) (h : fn.results = #[.tmp t] := by exact rfl) (hv : ev n f (.tmp t) = v := by exact rfl) : bodyPost P fn (fun e w' => ∃ u, e = .returned u ∧ u = v ∧ Ext w0 w') .ret (mk n f) w := retV (res1 h hv) hS.ext
theorem caQ {α : Type} {a : α} {l m : List α} : (a :: l) ++ m = a :: (l ++ m) := rfl
theorem naQ {α : Type} {m : List α} : [] ++ m = m := rfl
theorem sbQ {S : List Nat} {w0 w : World} {L L' : List Item} (hS : StX S w0 w L) (h : L'.Sublist L := by repeat first | exact lrQ | exact lnQ | apply lcQ | apply ldQ) : StX S w0 w L' := hS.sub h
theorem awQ {P : Program} {ops : Array Oper} {Q : Exit → Act → World → Prop} {C : World → Prop} {m fuel : Nat} {listed : Array Bool} {nf : Nat} {f : Fr} {w : World} (h : wpA P ops Q C m fuel listed nf f w) : wpA P ops Q C m fuel listed nf f w := h
theorem a1Q {P : Program} {ops : Array Oper} {Q : Exit → Act → World → Prop} {C : World → Prop} {m fuel : Nat} {listed : Array Bool} {nf : Nat} {f : Fr} {w : World} (i : Nat) {o : Oper} (ho : ops[i]? = some o)
  (h : wpL P ops (Exit.then (fun a' w' => (i < m → C w') ∧ wpAC P .any ops Q C m fuel (listed.setIfInBounds i true) a' w') Q) nf [o] f w) (hr : Region.ready .any ops listed = [i] := by kernel_rfl) : wpA P ops Q C m (fuel + 1) listed nf f w := a_step hr ⟨⟨o, ho, h⟩, trivial⟩
theorem fsR {P : Program} {ops : Array Oper} {Q : Exit → Act → World → Prop} {C : World → Prop} {m fuel : Nat} {listed : Array Bool} {nf : Nat} {f : Fr} {w : World} {d : Nat} {op : Op} {ty : TypeId} {pos : String} {af : Array Edge} {v : Value} (k : Nat) (hi : ops[k]? = some ⟨some d, op, ty, pos, af, none⟩) (hC : C w)
  (hr : ∀ w, C w → Y P (ev nf f) op ty w v w) (h : wpA P ops Q C m fuel (listed.setIfInBounds k true) nf (upd f d v) w) (hB : goB ops m listed k = true := by kernel_rfl) (hQ : ∀ c a a' w, Q (.panic c) a w → Q (.panic c) a' w := by intro _ _ _ _ hq; first | exact False.elim hq | (obtain ⟨_, v, hv, _⟩ := hq; cases hv)) : wpA P ops Q C m (fuel + 1) listed nf f w := f_step k hB hi hQ hC hr h
theorem fsQ {P : Program} {ops : Array Oper} {Q : Exit → Act → World → Prop} {C : World → Prop} {m fuel : Nat} {listed : Array Bool} {nf : Nat} {f : Fr} {w : World} {d : Nat} {op : Op} {ty : TypeId} {pos : String} {af : Array Edge} {v : Value} (k : Nat) (hi : ops[k]? = some ⟨some d, op, ty, pos, af, none⟩)
  (hr : ∀ w, C w → Y P (ev nf f) op ty w v w) (h : wpA P ops Q C m fuel (listed.setIfInBounds k true) nf (upd f d v) w) (hC : C w := by first | exact hS | (refine StX.sub hS ?_; repeat first | exact lrQ | exact lnQ | apply lcQ | apply ldQ)) (hB : goB ops m listed k = true := by kernel_rfl) (hQ : ∀ c a a' w, Q (.panic c) a w → Q (.panic c) a' w := by intro _ _ _ _ hq; first | exact False.elim hq | (obtain ⟨_, v, hv, _⟩ := hq; cases hv)) : wpA P ops Q C m (fuel + 1) listed nf f w := f_step k hB hi hQ hC hr h
theorem kpQ {A B C : Prop} (h : B) (hC : C := by first | exact hS | (refine StX.sub hS ?_; repeat first | exact lrQ | exact lnQ | apply lcQ | apply ldQ)) : (A → C) ∧ B := ⟨fun _ => hC, h⟩
theorem fkR {P : Program} {ops : Array Oper} {Q : Exit → Act → World → Prop} {C : World → Prop} {m fuel : Nat} {listed : Array Bool} {nf : Nat} {f : Fr} {w : World} {d j dj : Nat} {want : Bool} {op : Op} {ty : TypeId} {pos : String} {af : Array Edge} {u : Value} (k : Nat) (hi : ops[k]? = some ⟨some d, op, ty, pos, af, some (j, want)⟩) (hd : dstOf ops j = some dj) (hC : C w) (hb : f dj = u) (hu : u ≠ .bool want)
  (h : wpA P ops Q C m fuel (listed.setIfInBounds k true) nf (upd f d undef) w) (hB : goB ops m listed k = true := by kernel_rfl) (hn : Nat.blt dj nf = true := by exact rfl) (hQ : ∀ c a a' w, Q (.panic c) a w → Q (.panic c) a' w := by intro _ _ _ _ hq; first | exact False.elim hq | (obtain ⟨_, v, hv, _⟩ := hq; cases hv)) : wpA P ops Q C m (fuel + 1) listed nf f w := f_skip k hB hi hd hn hQ hC hb hu h
theorem fgR {P : Program} {ops : Array Oper} {Q : Exit → Act → World → Prop} {C : World → Prop} {m fuel : Nat} {listed : Array Bool} {nf : Nat} {f : Fr} {w : World} {d j dj : Nat} {want : Bool} {op : Op} {ty : TypeId} {pos : String} {af : Array Edge} {v : Value} (k : Nat) (hi : ops[k]? = some ⟨some d, op, ty, pos, af, some (j, want)⟩) (hd : dstOf ops j = some dj) (hC : C w) (hb : f dj = .bool want) (hr : ∀ w, C w → Y P (ev nf f) op ty w v w)
  (h : wpA P ops Q C m fuel (listed.setIfInBounds k true) nf (upd f d v) w) (hB : goB ops m listed k = true := by kernel_rfl) (hn : Nat.blt dj nf = true := by exact rfl) (hQ : ∀ c a a' w, Q (.panic c) a w → Q (.panic c) a' w := by intro _ _ _ _ hq; first | exact False.elim hq | (obtain ⟨_, v, hv, _⟩ := hq; cases hv)) : wpA P ops Q C m (fuel + 1) listed nf f w := f_go k hB hi hd hn hQ hC hb hr h
theorem nnQ {A B C D E F : Prop} (c : C) (h : F) : ((A → B → C) ∧ (D → E → True)) ∧ F := ⟨⟨fun _ _ => c, fun _ _ => trivial⟩, h⟩
theorem m1Q {P : Program} {ops : Array Oper} {Q : Exit → Act → World → Prop} {C1 C2 : World → Prop} {X1 X2 : List Nat} {fuel : Nat} {listed : Array Bool} {nf : Nat} {f : Fr} {w : World} (i : Nat) {o : Oper} (ho : ops[i]? = some o)
  (h : wpL P ops (Exit.then (fun a' w' => ((X1.contains i = false → C1 w → C1 w') ∧ (X2.contains i = false → C2 w → C2 w')) ∧ wpMA P ops Q C1 C2 X1 X2 fuel (listed.setIfInBounds i true) a' w') Q) nf [o] f w) (hr : Region.ready .any ops listed = [i] := by kernel_rfl) : wpM P ops Q C1 C2 X1 X2 (fuel + 1) listed nf f w := m1 i hr ho h
theorem rmQ {P : Program} {Q : Exit → Act → World → Prop} {nf : Nat} {f : Fr} {w : World} {S : List Nat} {w0 : World} {L : List Item} {id : Nat} {l : List Oper} (C1 C2 : World → Prop) (X1 X2 : List Nat) (hm : P.follows .mixedOrders = true) (hS : StX S w0 w L)
  (h : ∀ w, StX S w0 w L → wpM P l.toArray Q C1 C2 X1 X2 l.length (Array.replicate l.length false) nf f w) (hQ : ∀ c a a' w, Q (.panic c) a w → Q (.panic c) a' w := by intro _ _ _ _ hq; first | exact False.elim hq | (obtain ⟨_, v, hv, _⟩ := hq; cases hv)) : (Code.region id l.toArray true).wp P Q (mk nf f) w := region_m C1 C2 X1 X2 hm hQ hS h
theorem mQ {P : Program} {ops : Array Oper} {Q : Exit → Act → World → Prop} {C1 C2 : World → Prop} {X1 X2 : List Nat} {fuel : Nat} {listed : Array Bool} {nf : Nat} {f : Fr} {w : World} {d : Nat} {op : Op} {ty : TypeId} {pos : String} {af : Array Edge} {v : Value} (k : Nat) (hi : ops[k]? = some ⟨some d, op, ty, pos, af, none⟩)
  (hr : ∀ w, clC C1 C2 0 w → Y P (ev nf f) op ty w v w) (h : wpM P ops Q C1 C2 X1 X2 fuel (listed.setIfInBounds k true) nf (upd f d v) w) (hB : quB ops (clB X1 X2 0) [] listed k = true := by kernel_rfl) : wpM P ops Q C1 C2 X1 X2 (fuel + 1) listed nf f w := mq 0 k [] hB hi trivial hr h
abbrev scQ (t : Sgt) (cv : Value) (ag ak ae : Option Addr) (cg ck ce : Nat) : List Value := [.int .i64 t.table.mean, cv, .slice ag t.gauges.length cg, .int .i64 t.wrong, .int .i64 t.frm, .int .i64 t.ticks, .slice ak t.ctrs.length ck, .slice ae t.fcs.length ce, .int .i64 t.least, .int .i64 t.most, .int .i64 t.rate, .int .i64 t.quorum]
abbrev knQ (t : Sgt) (now : Int) (cv : Value) (ag ak ae : Option Addr) (cg ck ce : Nat) (aw : Option Addr) (cw : Nat) (ax : Option Addr) (cx : Nat) (ov : Value) : List Value := [.int .i64 t.table.mean, cv, .slice ag t.gauges.length cg, .int .i64 t.wrong, .int .i64 t.frm, .int .i64 t.ticks, .slice ak t.ctrs.length ck, .slice ae t.fcs.length ce, .int .i64 t.least, .int .i64 t.most, .int .i64 t.rate, .int .i64 t.quorum, .int .i64 now, .slice aw t.ticks.toNat cw, .slice ax t.ctrs.length cx, ov]
end Bx
namespace Go.Proofs.YtchbdfcbogjhcaaGreatDoor
open Go Bx Go.Proofs.Tryz
theorem c_out {a lo hi : Int} {w0 : World} : CV Tryz.prog 100 #[.int .i64 a, .int .i64 lo, .int .i64 hi] w0 (.bool (outB a lo hi)) := by
 refine enQ func100 rfl ntmps100 rfl fun hS => ?_
 refine seq <| region <| vA <| nil <| cwQ <| seq <| region <| vM <| vM <| sv (yLss rfl rfl) <| vM ?_
 refine sg rfl rfl rfl (fun g => (yMove rfl)) (fun v11 g11 => ?_)
 refine sg rfl rfl rfl (fun g => (yMove rfl)) (fun v12 g12 => ?_)
 refine sg rfl rfl rfl (fun g => (yGtr (g11.1 g) (g12.1 g))) (fun v13 g13 => ?_)
 refine sv (yOr rfl rfl (fun hB => (g13.1 hB))) <| vA <| nil <| cwQ <| wp_ret ?_
 exact rvQ hS
theorem c_Name {s : ByteArray} {w0 : World} (hs : s.size ≤ 9223372036854775807) : CV Tryz.prog 88 #[.string s] w0 (.bool (isName s)) := by
 refine enQ func88 rfl ntmps88 rfl fun hS => ?_
 refine seq <| region <| vA <| nil <| cwQ <| seq <| seq <| region <| vM <| sv (yLenS rfl underlying9) <| vM <| nil <| cwQ ?_
 refine block <| loop (fun f w zz => ∃ (k : Nat), f 0 = .string s ∧ f 6 = .int .i64 (s.size : Int) ∧ f 7 = .int .i64 (k : Int) ∧ StX [] w0 w [] ∧ (k ≤ s.size) ∧ (∀ i, i < k → okAt s i) ∧ zz = s.size - k) _ ⟨_, rfl, 0, rfl, rfl, rfl, hS, (Nat.zero_le _), (fun i hi => absurd hi (Nat.not_lt_zero i)), rfl⟩ ?_
 clear hS
 rintro f w _ ⟨k, h0, h6, h7, hS, hk, hP, rfl⟩
 refine seq <| region <| sv (yLss h7 h6) <| nil <| cwQ <| seq ?_
 refine cond rfl ?_ ?_ <;> intro c8 <;> simp only [BS, ne_eq] at c8
 ·
  refine skip <| cwQ <| seq <| block <| seq <| region <| sv (yMove h7) <| vA <| nil <| cwQ <| seq <| region <| sv (yMove h0) ?_
  refine vM ?_
  refine sv (yIxS rfl rfl underlying9 (getElem?_pos s k (by omega))) ?_
  refine vA <| nil <| cwQ <| block <| seq <| region <| vM <| sv (yLeq rfl rfl) <| vM ?_
  refine sg rfl rfl rfl (fun g => (yMove rfl)) (fun v17 g17 => ?_)
  refine sg rfl rfl rfl (fun g => (yLeq (g17.1 g) rfl)) (fun v18 g18 => ?_)
  refine sv (yAnd rfl (fun hB => (g18.1 hB)) rfl) <| vA <| nil <| cwQ ?_
  refine cond rfl ?_ ?_ <;> intro c13 <;> simp only [BS, ne_eq] at c13
  ·
   refine skip <| cwQ <| region <| sv (yAddQ h7 rfl) <| vM <| nil ?_
   exact ⟨_, _, rfl, ⟨k + 1, h0, h6, rfl, hS, (by omega), (snoc hP ((okAt_of s k (by omega)).2 (by omega))), rfl⟩, by omega⟩
  refine seq <| region <| vM <| sv (yGtr rfl rfl) <| vM ?_
  refine sg rfl rfl rfl (fun g => (yMove rfl)) (fun v24 g24 => ?_)
  refine sg rfl rfl rfl (fun g => (yEql (g24.1 g) rfl)) (fun v25 g25 => ?_)
  refine sg rfl rfl rfl (fun g => (yMove (g25.1 g))) (fun v26 g26 => ?_)
  refine sgg rfl rfl g26 (fun g => (yMove rfl)) (fun v27 g27 => ?_)
  refine sgg rfl rfl g26 (fun g => (yLeq rfl (g27.1 g))) (fun v28 g28 => ?_)
  refine sgg rfl rfl g26 (fun g => (yMove (g28.1 g))) (fun v29 g29 => ?_)
  refine sgg rfl rfl g29 (fun g => (yMove rfl)) (fun v30 g30 => ?_)
  refine sgg rfl rfl g29 (fun g => (yLeq (g30.1 g) rfl)) (fun v31 g31 => ?_)
  refine sgg rfl rfl g26 (fun g => (yAnd (g29.1 g) (fun hB => (g31.1 ⟨g, hB⟩)) rfl)) (fun v32 g32 => ?_)
  refine sg rfl rfl rfl (fun g => (yOr (g26.1 g) rfl (fun hB => (g32.1 ⟨g, hB⟩)))) (fun v33 g33 => ?_)
  refine sv (yAnd rfl (fun hB => (g33.1 hB)) rfl) <| vA <| nil <| cwQ ?_
  refine cond rfl ?_ ?_ <;> intro c20 <;> simp only [BS, ne_eq] at c20
  ·
   refine skip <| cwQ <| region <| sv (yAddQ h7 rfl) <| vM <| nil ?_
   exact ⟨_, _, rfl, ⟨k + 1, h0, h6, rfl, hS, (by omega), (snoc hP ((okAt_of s k (by omega)).2 (by omega))), rfl⟩, by omega⟩
  refine seq <| region <| vA <| nil <| cwQ ?_
  refine wp_ret (blockR (blockR (thenR (thenR (blockR (thenR ?_))))))
  exact retV (res1 rfl (by rw [isName_bad s k (by omega) (fun h => by have := (okAt_of s k (by omega)).1 h; omega)]; rfl)) hS.ext
 refine exit <| cwQ <| seq <| region <| sv (yMove h0) <| sv (ySNe rfl rfl) <| vM ?_
 refine sg rfl rfl rfl (fun g => (yMove h0)) (fun v39 g39 => ?_)
 refine sg rfl rfl rfl (fun g => (yLenS (g39.1 g) underlying9)) (fun v40 g40 => ?_)
 refine sg rfl rfl rfl (fun g => (yLeq (g40.1 g) rfl)) (fun v41 g41 => ?_)
 refine sv (yAnd rfl (fun hB => (g41.1 hB)) rfl) <| vA <| nil <| cwQ <| wp_ret ?_
 exact retV (res1 rfl (by rw [isName_end s (fun i hi => hP i (by omega))]; rfl)) hS.ext
theorem c_cycle {v0 v2 v3 v5 : Value} {a : Option Addr} {len cap : Nat} {d : Int} {w0 : World} (hI : I64 (d * len)) : CV Tryz.prog 107 #[.agg #[v0, .slice a len cap, v2, v3, .int .i64 d, v5]] w0 (.int .i64 (d * len)) := by
 refine enQ func107 rfl ntmps107 rfl fun hS => ?_
 refine seq <| region ?_
 refine sbox hS rfl rfl fun b1 w hS => ?_
 refine vA <| nil <| cwQ <| seq <| region <| sv (fa214_4 rfl) <| vL rfl isAgg3 hS rfl <| sv (fa214_1 rfl) <| vL rfl isAgg30 hS rfl <| sv (yLen rfl underlying30) <| sv (yMul rfl rfl hI) <| vA <| nil ?_
 refine cwQ <| wp_ret ?_
 exact rvQ hS
theorem c_IndexFuncInt {l : List Int} {p : Int → Bool} {v : Value} {g : Nat} {cl : List Value} {w0 : World} (hsl : Sl w0 1 RInt v l) (hcall : ∀ ys w, (callFunc g ys).run Tryz.prog w = .ok (.enter g ys) w) (hp : ∀ x cs w, x ∈ l → Ext w0 w → RInt w cs x → CV Tryz.prog g (.int .i64 x :: cl).toArray w (.bool (p x))) : CV Tryz.prog 77 #[v, .func (.func g) #[] cl.toArray] w0 (.int .i64 (idxF p l 0)) := by
 obtain ⟨a, cap, rfl, hcap, hmx, hel⟩ := hsl
 refine enQ func77 rfl ntmps77 rfl fun hS => ?_
 refine seq <| region <| vA <| nil <| cwQ <| seq <| seq <| region <| vM <| sv (yLen rfl underlying30) <| vM <| nil <| cwQ ?_
 refine block <| loop (fun f w zz => ∃ (k : Nat), f 0 = .slice a l.length cap ∧ f 1 = .func (.func g) #[] cl.toArray ∧ f 7 = .int .i64 (l.length : Int) ∧ f 8 = .int .i64 (k : Int) ∧ StX [] w0 w [] ∧ (k ≤ l.length) ∧ (idxF p l 0 = idxF p (l.drop k) k) ∧ zz = l.length - k) _ ⟨_, rfl, 0, rfl, rfl, rfl, rfl, hS, (Nat.zero_le _), (rfl), rfl⟩ ?_
 clear hS
 rintro f w _ ⟨k, h0, h1, h7, h8, hS, hk, hI, rfl⟩
 refine seq <| region <| sv (yLss h8 h7) <| nil <| cwQ <| seq ?_
 refine cond rfl ?_ ?_ <;> intro c9 <;> simp only [BS, ne_eq] at c9
 ·
  refine skip <| cwQ <| seq <| block <| seq <| region <| sv (yMove h8) <| vA <| nil <| cwQ <| seq <| region ?_
  obtain ⟨x, hx, hd⟩ := drop_of (l := l) (k := k) (by omega)
  obtain ⟨b, o, cs, ha, hlen, hcs, hR⟩ := hel k (by omega)
  obtain rfl : x = l[k] := (List.getElem?_eq_some_iff.1 hx).2.symm
  obtain ⟨rfl, hi64⟩ := hR
  have hR : RInt w0 [.int .i64 l[k]] l[k] := ⟨rfl, hi64⟩
  refine sv (yMove h1) <| sv (yMove h0) <| vM <| sv (yIxQ rfl ha rfl runUnderlying30 sizeOf3) <| sv (yLd rfl isAgg3 (hcs.ext hS.ext).one) ?_
  refine scallf rfl hcall e1 (hp _ _ _ (List.getElem_mem _) hS.ext hR) ?_
  rintro _ w ⟨rfl, hE⟩; replace hS := hS.step hE; clear hE
  refine nil <| cwQ ?_
  refine cond rfl (fun c16 => ?_) (fun c16 => ?_)
  ·
   refine seq <| region <| vM <| vA <| nil <| cwQ ?_
   refine wp_ret (blockR (thenR (thenR (blockR (thenR ?_)))))
   exact retV (res1 rfl (by rw [hI, hd, idxF, if_pos c16]; rfl)) hS.ext
  refine skip <| cwQ <| region <| sv (yAddQ h8 rfl) <| vM <| nil ?_
  exact ⟨_, _, rfl, ⟨k + 1, h0, h1, h7, rfl, hS, (by omega), (by rw [hI, hd, idxF, if_neg (by simp [c16])]; rfl), rfl⟩, by omega⟩
 refine exit <| cwQ <| seq <| region <| vA <| nil <| cwQ ?_
 obtain rfl : k = l.length := by omega
 refine wp_ret ?_
 exact retV (res1 rfl (by rw [hI, List.drop_length]; rfl)) hS.ext
theorem c_ContainsFuncInt {l : List Int} {p : Int → Bool} {v : Value} {g : Nat} {cl : List Value} {w0 : World} (hsl : Sl w0 1 RInt v l) (hcall : ∀ ys w, (callFunc g ys).run Tryz.prog w = .ok (.enter g ys) w) (hp : ∀ x cs w, x ∈ l → Ext w0 w → RInt w cs x → CV Tryz.prog g (.int .i64 x :: cl).toArray w (.bool (p x))) : CV Tryz.prog 51 #[v, .func (.func g) #[] cl.toArray] w0 (.bool (l.any p)) := by
 refine enQ func51 rfl ntmps51 rfl fun hS => ?_
 refine seq <| region <| vA <| nil <| cwQ <| seq <| region <| vM <| vM ?_
 refine scV hS call77 e2 (c_IndexFuncInt hsl hcall hp) fun w hS => ?_
 refine sv (yGeq rfl rfl) <| vA <| nil <| cwQ <| wp_ret ?_
 exact retV (res1 rfl (by rw [← idxF_any p l 0 (Int.le_refl 0)]; rfl)) hS.ext
theorem c_first {rs : List Rule} {b : Nat} {T : TypeId} {w0 : World} (hb : w0.heap[b]? = some (.cells (rs.flatMap rcells).toArray T (0, 0))) (hR : RulesOk Tryz.prog w0 rs) (hl : rs.length ≤ 1000) {e : Int} (he : firstE rs = e) : CV Tryz.prog 98 #[.slice (some ⟨b, 0, none⟩) rs.length rs.length] w0 (.int .i64 e) := by
 refine enQ func98 rfl ntmps98 rfl fun hS => ?_
 refine seq <| region <| vA <| nil <| cwQ <| seq <| seq <| region <| vM <| sv (yLen rfl underlying248) <| vM <| nil <| cwQ ?_
 refine block <| loop (fun f w zz => ∃ (k : Nat), f 5 = .slice (some ⟨b, 0, none⟩) rs.length rs.length ∧ f 6 = .int .i64 (rs.length : Int) ∧ f 7 = .int .i64 (k : Int) ∧ StX [] w0 w [] ∧ (k ≤ rs.length) ∧ (RulesOk Tryz.prog w0 (rs.drop k)) ∧ (e = firstE (rs.drop k)) ∧ zz = rs.length - k) _ ⟨_, rfl, 0, rfl, rfl, rfl, hS, (Nat.zero_le _), (hR), (he.symm), rfl⟩ ?_
 clear hS
 rintro f w _ ⟨k, h5, h6, h7, hS, hk, hR, hE, rfl⟩
 refine seq <| region <| sv (yLss h7 h6) <| nil <| cwQ <| seq ?_
 refine cond rfl ?_ ?_ <;> intro c8 <;> simp only [BS, ne_eq] at c8
 ·
  refine skip <| cwQ <| seq <| block <| seq <| region ?_
  obtain ⟨r, hr, hd⟩ := drop_of (l := rs) (k := k) (by omega)
  rw [hd] at hR
  obtain ⟨hcall, hv, hn⟩ := hR
  refine sv (yIx h5 h7 runUnderlying248 sizeOf212 (by omega) (by omega)) <| sv (yLdA rfl isAgg212 sizeOf212 ((flat_cells rcells_len (blk_cells hb) hr).ext hS.ext) rfl) ?_
  refine salloc hS zeroValue212 rfl fun b4 w hS => ?_
  refine sS hS rfl sizeOf212 fun w hS => ?_
  refine nil <| cwQ <| seq <| region <| sv (fa212_0 rfl) <| vL rfl isAgg52 hS rfl ?_
  refine scallf rfl hcall .nil (hv _ hS.ext) ?_
  rintro _ w ⟨rfl, hE⟩; replace hS := hS.step hE; clear hE
  refine nil <| cwQ ?_
  refine cond rfl (fun c13 => ?_) (fun c13 => ?_)
  ·
   refine seq <| region <| sv (fa212_1 rfl) <| vL rfl isAgg49 hS rfl <| vA <| nil <| cwQ ?_
   refine wp_ret (blockR (thenR (thenR (blockR (thenR ?_)))))
   exact retV (res1 rfl (by rw [hE, hd, firstE, if_pos c13]; rfl)) hS.ext
  refine skip <| cwQ <| region <| sv (yAddQ h7 rfl) <| vM <| nil ?_
  exact ⟨_, _, rfl, ⟨k + 1, h5, h6, rfl, (hS.sub (List.nil_sublist _)), (by omega), (hn c13), (by rw [hE, hd, firstE, if_neg (by simp [c13])]), rfl⟩, by omega⟩
 refine exit <| cwQ <| seq <| region <| vA <| nil <| cwQ ?_
 obtain rfl : k = rs.length := by omega
 refine wp_ret ?_
 exact retV (res1 rfl (by rw [hE, List.drop_length]; rfl)) hS.ext
theorem c_Check1 {b : Nat} {T : TypeId} {m : Int} {cv : Value} {w0 : World} (hb : w0.heap[b]? = some (.cells [.int .i64 m, cv].toArray T (0, 0))) : CV Tryz.prog 99 #[ptQ b] w0 (.bool (outB m (-20000) 20000)) := by
 refine enQ func99 rfl ntmps99 rfl fun hS => ?_
 refine seq <| region <| vA <| nil <| cwQ <| seq <| region <| sv (fa24_0 rfl) <| sv (yLdB rfl isAgg3 (hS.ext.get hb) rfl) ?_
 refine scV hS call100 e3 c_out fun w hS => ?_
 refine vA <| nil <| cwQ <| wp_ret ?_
 exact rvQ hS
theorem c_Check2 {b : Nat} {T : TypeId} {m : Int} {a : Option Addr} {l cap : Nat} {w0 : World} (hb : w0.heap[b]? = some (.cells [.int .i64 m, .slice a l cap].toArray T (0, 0))) : CV Tryz.prog 101 #[ptQ b] w0 (.bool (decide ((12 : Int) < l))) := by
 refine enQ func101 rfl ntmps101 rfl fun hS => ?_
 refine seq <| region <| vA <| nil <| cwQ <| seq <| region <| sv (fa24_1 rfl) <| sv (yLdB rfl isAgg22 (hS.ext.get hb) rfl) <| sv (yLen rfl underlying22) <| sv (yGtr rfl rfl) <| vA <| nil ?_
 refine cwQ <| wp_ret ?_
 exact rvQ hS
theorem c_Check3 {h : Int} {w0 : World} : CV Tryz.prog 102 #[.int .i64 h] w0 (.bool (outB h (-10000) 10000)) := by
 refine enQ func102 rfl ntmps102 rfl fun hS => ?_
 refine seq <| region <| vA <| nil <| cwQ <| seq <| region <| vM ?_
 refine scV hS call100 e3 c_out fun w hS => ?_
 refine vA <| nil <| cwQ <| wp_ret ?_
 exact rvQ hS
theorem c_Check4 {b : Nat} {T : TypeId} {c : Const} {a : Option Addr} {cap : Nat} {w0 : World} (hb : w0.heap[b]? = some (.cells [.string c.name, .slice a c.heights.length cap, .int .i64 c.off, .int .i64 c.step, .int .i64 c.den, .int .i64 c.slack].toArray T (0, 0))) (hs : c.name.size ≤ 9223372036854775807) : CV Tryz.prog 103 #[ptQ b] w0 (.bool (!isName c.name)) := by
 refine enQ func103 rfl ntmps103 rfl fun hS => ?_
 refine seq <| region <| vA <| nil <| cwQ <| seq <| region <| sv (fa214_0 rfl) <| sv (yLdB rfl isAgg9 (hS.ext.get hb) rfl) ?_
 refine scV hS call88 e1 (c_Name hs) fun w hS => ?_
 refine sv (yNot rfl) <| vA <| nil <| cwQ <| wp_ret ?_
 exact rvQ hS
theorem c_Check5 {b b2 bm : Nat} {T T2 : TypeId} {c : Const} {a : Option Addr} {cap : Nat} {seen : List ByteArray} {w0 : World} (hb : w0.heap[b]? = some (.cells [.string c.name, .slice a c.heights.length cap, .int .i64 c.off, .int .i64 c.step, .int .i64 c.den, .int .i64 c.slack].toArray T (0, 0))) (h2 : w0.heap[b2]? = some (.cells [.map (some bm)].toArray T2 (0, 0))) (hm : ∃ o, w0.heap[bm]? = some o ∧ MapOk Value.string (seenM seen) o) : CV Tryz.prog 104 #[ptQ b2, ptQ b] w0 (.bool (memB c.name seen)) := by
 refine enQ func104 rfl ntmps104 rfl fun hS => ?_
 refine seq <| region <| vA <| nil <| cwQ <| seq <| region <| sv (yLdB rfl isAgg197 (hS.ext.get h2) rfl) <| sv (fa214_0 rfl) <| sv (yLdB rfl isAgg9 (hS.ext.get hb) rfl) ?_
 refine sv (yLook Value.string rfl rfl runUnderlying197 (keyStr underlying9) zeroValue4 (by obtain ⟨o, h1, h2⟩ := hm; exact ⟨o, hS.ext.get h1, h2⟩) (getM_seen _ _)) ?_
 refine vA <| nil <| cwQ <| wp_ret ?_
 exact rvQ hS
theorem c_Check6 {b : Nat} {T : TypeId} {c : Const} {a : Option Addr} {cap : Nat} {w0 : World} (hb : w0.heap[b]? = some (.cells [.string c.name, .slice a c.heights.length cap, .int .i64 c.off, .int .i64 c.step, .int .i64 c.den, .int .i64 c.slack].toArray T (0, 0))) : CV Tryz.prog 105 #[ptQ b] w0 (.bool (outB c.heights.length 2 48)) := by
 refine enQ func105 rfl ntmps105 rfl fun hS => ?_
 refine seq <| region <| vA <| nil <| cwQ <| seq <| region <| sv (fa214_1 rfl) <| sv (yLdB rfl isAgg30 (hS.ext.get hb) rfl) <| sv (yLen rfl underlying30) ?_
 refine scV hS call100 e3 c_out fun w hS => ?_
 refine vA <| nil <| cwQ <| wp_ret ?_
 exact rvQ hS
theorem c_Check7 {b2 : Nat} {T2 : TypeId} {b : Nat} {T : TypeId} {c : Const} {a : Option Addr} {cap : Nat} {w0 : World} (hb : w0.heap[b]? = some (.cells [.string c.name, .slice a c.heights.length cap, .int .i64 c.off, .int .i64 c.step, .int .i64 c.den, .int .i64 c.slack].toArray T (0, 0))) (h2 : w0.heap[b2]? = some (.cells [.func (.func 102) #[] #[]].toArray T2 (0, 0))) (hl : (c.heights.length : Int) ≤ 48) (hsl : Sl w0 1 RInt (.slice a c.heights.length cap) c.heights) : CV Tryz.prog 106 #[ptQ b, ptQ b2] w0 (.bool (numsB c)) := by
 refine enQ func106 rfl ntmps106 rfl fun hS => ?_
 refine seq <| region <| vA <| nil <| cwQ <| seq <| region_draw mixed (by kernel_rfl) hS <| qv (fun w hS => fa214_4 rfl) <| qv (fun w hS => yLdB rfl isAgg3 (hS.ext.get hb) rfl) <| qcall call100 e3 (fun w hS => c_out) <| qv (fun w hS => yMove rfl) ?_
 refine qg rfl rfl rfl (fun g w hS => (fa214_3 rfl)) (fun v7 g7 => ?_)
 refine qg rfl rfl rfl (fun g w hS => (yLdB (g7.1 g) isAgg3 (hS.ext.get hb) rfl)) (fun v8 g8 => ?_)
 refine qgc rfl rfl rfl call100 (fun g => (.cons (g8.1 g) e2)) (fun g w hS => c_out) (fun v9 g9 => ?_)
 refine qv (fun w hS => yOr rfl rfl (fun hB => (g9.1 hB))) <| qv (fun w hS => yMove rfl) ?_
 refine qg rfl rfl rfl (fun g w hS => (fa214_5 rfl)) (fun v12 g12 => ?_)
 refine qg rfl rfl rfl (fun g w hS => (yLdB (g12.1 g) isAgg3 (hS.ext.get hb) rfl)) (fun v13 g13 => ?_)
 refine qgc rfl rfl rfl call100 (fun g => (.cons (g13.1 g) e2)) (fun g w hS => c_out) (fun v14 g14 => ?_)
 refine qv (fun w hS => yOr rfl rfl (fun hB => (g14.1 hB))) <| qv (fun w hS => yMove rfl) ?_
 refine qg rfl rfl rfl (fun g w hS => (fa214_2 rfl)) (fun v17 g17 => ?_)
 refine qg rfl rfl rfl (fun g w hS => (yLdB (g17.1 g) isAgg3 (hS.ext.get hb) rfl)) (fun v18 g18 => ?_)
 refine qg rfl rfl rfl (fun g w hS => (yLdBA rfl isAgg214 sizeOf214 (hS.ext.get hb) rfl rfl)) (fun v19 g19 => ?_)
 refine qgc rfl rfl rfl call107 (fun g => (.cons (g19.1 g) .nil)) (fun g w hS => (c_cycle (by have := (cyc_bd (d := c.den) (by simp only [Bool.or_eq_false_iff, outB_false] at g; omega) (by simp only [Bool.or_eq_false_iff, outB_false] at g; omega) hl); exact ⟨by omega, by omega⟩))) (fun v20 g20 => ?_)
 refine qg rfl rfl rfl (fun g w hS => (ySub (g20.1 g) rfl (by have := (cyc_bd (d := c.den) (by simp only [Bool.or_eq_false_iff, outB_false] at g; omega) (by simp only [Bool.or_eq_false_iff, outB_false] at g; omega) hl); exact ⟨by omega, by omega⟩))) (fun v21 g21 => ?_)
 refine qgc rfl rfl rfl call100 (fun g => (.cons (g18.1 g) (.cons rfl (.cons (g21.1 g) .nil)))) (fun g w hS => c_out) (fun v22 g22 => ?_)
 refine qv (fun w hS => yOr rfl rfl (fun hB => (g22.1 hB))) <| qv (fun w hS => yMove rfl) ?_
 refine qg rfl rfl rfl (fun g w hS => (fa214_1 rfl)) (fun v25 g25 => ?_)
 refine qg rfl rfl rfl (fun g w hS => (yLdB (g25.1 g) isAgg30 (hS.ext.get hb) rfl)) (fun v26 g26 => ?_)
 refine qg rfl rfl rfl (fun g w hS => (yLdB rfl isAgg96 (hS.ext.get h2) rfl)) (fun v27 g27 => ?_)
 refine qgc rfl rfl rfl call51 (fun g => (.cons (g26.1 g) (.cons (g27.1 g) .nil))) (fun g w hS => (c_ContainsFuncInt (cl := []) (hsl.ext RInt.stays hS.ext) call102 (fun x cs w _ _ _ => c_Check3))) (fun v28 g28 => ?_)
 refine qv (fun w hS => yOr rfl rfl (fun hB => (g28.1 hB))) <| qv (fun w hS => yAsg rfl) ?_
 clear hS; refine qnil (fun w hS => ?_)
 refine cwQ <| wp_ret ?_
 exact rvQ hS
theorem c_Check {t : Table} {cs : List Value} {w0 : World} (ht : RTable w0 cs t) : CV Tryz.prog 62 #[.agg cs.toArray] w0 (.tuple #[.int .i64 (checkT t).1, .int .i64 (checkT t).2]) := by
 obtain ⟨cv, rfl, hmean, a, cap, rfl, hcap, hmx, hel⟩ := ht
 refine enQ func62 rfl ntmps62 rfl fun hS => ?_
 refine seq <| region ?_
 refine sbox hS rfl rfl fun b1 w hS => ?_
 refine vA <| vA <| nil <| cwQ <| seq <| region <| sv (yFn e1) <| sv (yBuild zeroValue212 rfl pl212 (.cons rfl rfl (.cons rfl rfl .nil)) rfl) <| sv (yFn e1) <| sv (yBuild zeroValue212 rfl pl212 (.cons rfl rfl (.cons rfl rfl .nil)) rfl) ?_
 refine sbslice hS underlying248 sizeOf212 rfl zeroValue212 rfl (.cons rfl rfl (.cons rfl rfl .nil)) rfl fun b13 w hS => ?_
 refine scV hS call98 e1 (c_first (rs := [⟨99, [ptQ b1], 7, outB t.mean (-20000) 20000⟩, ⟨101, [ptQ b1], 3, decide ((12 : Int) < t.consts.length)⟩]) (hS.at _) ⟨call99, fun w e => c_Check1 (e.get (hS.at _)), fun _ => ⟨call101, fun w e => c_Check2 (e.get (hS.at _)), fun _ => trivial⟩⟩ (Nat.le_of_ble_eq_true rfl) (tErr_eq t _ _ _ _)) fun w hS => ?_
 refine vA <| nil <| cwQ <| seq <| seq <| region <| vM <| sv (yNeq rfl rfl) <| nil <| cwQ ?_
 refine cond rfl ?_ ?_ <;> intro c16 <;> simp only [BS, ne_eq] at c16
 ·
  refine seq <| region <| vM <| vA <| vA <| nil <| cwQ ?_
  refine wp_ret (thenR ?_)
  exact retV (res2 rfl (fstI (checkT_bad c16)) (sndI (checkT_bad c16))) hS.ext
 obtain ⟨hgood, hlen⟩ := checkT_good c16
 refine skip <| cwQ <| seq <| region ?_
 refine smkmap Value.string hS ?_; clear hS; intro b18 w hS
 refine salloc hS zeroValue197 rfl fun b4 w hS => ?_
 refine sS hS rfl sizeOf197 fun w hS => ?_
 refine nil <| cwQ <| seq <| seq <| region <| sv (fa24_1 rfl) <| vL rfl isAgg22 hS rfl <| sv (yLen rfl underlying22) <| vM <| nil <| cwQ <| block <| loop (fun f w zz => ∃ (k : Nat), f 4 = ptQ b4 ∧ f 20 = .slice a t.consts.length cap ∧ f 21 = .int .i64 (t.consts.length : Int) ∧ f 22 = .int .i64 (k : Int) ∧ StX [] w0 w [blk b4 [.map (some b18)] 197, mapI b18 Value.string (seenM ((t.consts.take k).map (·.name)))] ∧ (k ≤ t.consts.length) ∧ (checkT t = checkL (t.consts.drop k) ((t.consts.take k).map (·.name)) k) ∧ zz = t.consts.length - k) _ ⟨_, rfl, 0, rfl, rfl, rfl, rfl, (hS.sub (.cons_cons _ (.cons_cons _ (List.nil_sublist _)))), (Nat.zero_le _), (hgood), rfl⟩ ?_
 clear hS
 rintro f w _ ⟨k, h4, h20, h21, h22, hS, hk, hI, rfl⟩
 refine seq <| region <| sv (yLss h22 h21) <| nil <| cwQ <| seq ?_
 refine cond rfl ?_ ?_ <;> intro c23 <;> simp only [BS, ne_eq] at c23
 ·
  refine skip <| cwQ <| seq <| block <| seq <| region ?_
  obtain ⟨c, hx, hd⟩ := drop_of (l := t.consts) (k := k) (by omega)
  obtain ⟨b, o, cs, ha, hlen, hcs, hR⟩ := hel k (by omega)
  obtain rfl : c = t.consts[k] := (List.getElem?_eq_some_iff.1 hx).2.symm
  generalize t.consts[k] = c at hx hd hR
  obtain ⟨hv, rfl, hn1, hsl1, _, _, _, _⟩ := hR
  obtain ⟨a1, cap1, rfl, hq1, hq2, hq3⟩ := id hsl1
  refine sv (yMove h22) <| sv (yIxQ h20 ha h22 runUnderlying22 sizeOf214) <| sv (yLdA rfl isAgg214 sizeOf214 (hcs.ext hS.ext) rfl) ?_
  refine salloc hS zeroValue214 rfl fun b6 w hS => ?_
  refine vA ?_
  refine sS hS rfl sizeOf214 fun w hS => ?_
  refine nil <| cwQ <| seq <| region ?_
  refine salloc hS zeroValue96 rfl fun b7 w hS => ?_
  refine sS hS rfl sizeOf96 fun w hS => ?_
  refine nil <| cwQ <| seq <| region <| sv (yFn e1) <| sv (yBuild zeroValue212 rfl pl212 (.cons rfl rfl (.cons rfl rfl .nil)) rfl) <| sv (yFn (.cons h4 e1)) <| sv (yBuild zeroValue212 rfl pl212 (.cons rfl rfl (.cons rfl rfl .nil)) rfl) <| sv (yFn e1) <| sv (yBuild zeroValue212 rfl pl212 (.cons rfl rfl (.cons rfl rfl .nil)) rfl) <| sv (yFn e2) <| sv (yBuild zeroValue212 rfl pl212 (.cons rfl rfl (.cons rfl rfl .nil)) rfl) ?_
  refine sbslice hS underlying248 sizeOf212 rfl zeroValue212 rfl (.cons rfl rfl (.cons rfl rfl (.cons rfl rfl (.cons rfl rfl .nil)))) rfl fun b35 w hS => ?_
  refine scV hS call98 e1 (c_first (rs := [⟨103, [ptQ b6], 6, !isName c.name⟩, ⟨104, [ptQ b4, ptQ b6], 5, memB c.name ((t.consts.take k).map (·.name))⟩, ⟨105, [ptQ b6], 3, outB c.heights.length 2 48⟩, ⟨106, [ptQ b6, ptQ b7], 7, numsB c⟩]) (hS.at _) ⟨call103, fun w e => c_Check4 (e.get (hS.at b6)) hn1, fun _ => ⟨call104, fun w e => c_Check5 (e.get (hS.at b6)) (e.get (hS.at b4)) (by obtain ⟨o, h1, h2⟩ := hS.is b18; exact ⟨o, e.get h1, h2⟩), fun _ => ⟨call105, fun w e => c_Check6 (e.get (hS.at b6)), fun h6 => ⟨call106, fun w e => c_Check7 (e.get (hS.at b6)) (e.get (hS.at b7)) (outB_false.1 h6).2 (hsl1.ext RInt.stays (hS.ext.trans e)), fun _ => trivial⟩⟩⟩⟩ (Nat.le_of_ble_eq_true rfl) (cErr_eq _ c _ _ _ _ _ _ _ _)) ?_; clear hS; intro w hS
  refine vA <| nil <| cwQ <| seq <| seq <| region <| vM <| sv (yNeq rfl rfl) <| nil <| cwQ ?_
  refine cond rfl ?_ ?_ <;> intro c38 <;> simp only [BS, ne_eq] at c38
  ·
   refine seq <| region <| vM <| vM <| vA <| vA <| nil <| cwQ ?_
   have hfin : checkT t = ((k : Int), cErr ((t.consts.take k).map (·.name)) c) := by rw [hI, hd, checkL, if_pos c38]
   refine wp_ret (thenR (blockR (thenR (thenR (blockR (thenR ?_))))))
   exact retV (res2 rfl (fstI hfin) (sndI hfin)) hS.ext
  refine skip <| cwQ <| region <| sv (yLdB h4 isAgg197 (hS.at _) rfl) <| sv (fa214_0 rfl) <| vL rfl isAgg9 hS rfl ?_
  refine smapset Value.string hS rfl rfl rfl runUnderlying197 (keyStr underlying9) ?_; clear hS; intro w hS
  refine nil <| cwQ <| region <| sv (yAddQ h22 rfl) <| vM <| nil ?_
  exact ⟨_, _, rfl, ⟨k + 1, h4, h20, h21, rfl, (by rw [take_names hx, ← setM_seen _ _ (cErr_seen c38)]; exact hS.sub (.cons _ (.cons _ (.cons _ lrQ)))), (by omega), (by rw [hI, hd, checkL, if_neg (fun h => h c38), take_names hx]; rfl), rfl⟩, by omega⟩
 refine exit <| cwQ <| seq <| region <| vA <| vA <| nil <| cwQ ?_
 obtain rfl : k = t.consts.length := by omega
 have hfin : checkT t = (0, 0) := by rw [hI, List.drop_length]; rfl
 refine wp_ret ?_
 exact retV (res2 rfl (fstI hfin) (sndI hfin)) hS.ext
theorem c_floor {a b : Int} {w0 : World} (hb : 0 < b) (ha : Bd a (-1000000000000) 1000000000000) : CV Tryz.prog 134 #[.int .i64 a, .int .i64 b] w0 (.int .i64 (a / b)) := by
 refine enQ func134 rfl ntmps134 rfl fun hS => ?_
 refine seq <| region <| vA <| nil <| cwQ <| seq <| seq <| region <| vM <| vM <| sv (yRem rfl rfl (by omega)) <| sv (yLss rfl rfl) <| nil ?_
 refine cwQ ?_
 refine cond rfl ?_ ?_ <;> intro c8 <;> simp only [BS, ne_eq] at c8
 ·
  refine seq <| region <| vM <| vM <| sv (yQuo rfl rfl (by omega) ⟨by omega, by omega⟩) ?_
  refine sv (ySub rfl rfl (by have := tdiv_bd hb ha; exact ⟨by omega, by omega⟩)) ?_
  refine vA <| nil <| cwQ ?_
  refine wp_ret (thenR ?_)
  exact retV (res1 rfl (eqI (by rw [← tdiv_floor hb, if_pos c8]))) hS.ext
 refine skip <| cwQ <| seq <| region <| vM <| vM <| sv (yQuo rfl rfl (by omega) ⟨by omega, by omega⟩) <| vA <| nil <| cwQ <| wp_ret ?_
 exact retV (res1 rfl (eqI (by rw [← tdiv_floor hb, if_neg c8]))) hS.ext
theorem c_add {b o : Nat} {T : TypeId} {cs : List Value} {lo hi : Int} {x : Span} {w0 : World} (hb : w0.heap[b]? = some (.cells cs.toArray T (0, 0))) (h0 : cs[o]? = some (.int .i64 lo)) (h1 : cs[o + 1]? = some (.int .i64 hi)) (hlo : I64 (lo + x.lo)) (hhi : I64 (hi + x.hi)) : CE Tryz.prog 109 #[.pointer (some ⟨b, o, none⟩), .agg (spanC x).toArray] w0 (fun v w' => v = .tuple #[] ∧ Put b (.cells (splice cs o [.int .i64 (lo + x.lo), .int .i64 (hi + x.hi)]).toArray T (0, 0)) w0 w') := by
 refine enter func109 rfl ntmps109 rfl ?_
 have hS := StX.start1 (b := b) ⟨_, hb, rfl⟩
 have hlen : o + 2 ≤ cs.length := (List.getElem?_eq_some_iff.1 h1).1
 refine seq <| region ?_
 refine sbox hS rfl rfl fun b3 w hS => ?_
 refine nil <| cwQ <| seq <| region_tail mixed 11 (by kernel_rfl) hS <| qv (fun w hS => yMove rfl) <| qv (fun w hS => yNil rfl) <| qv (fun w hS => fa219_0 rfl) <| qv (fun w hS => fa69_0 rfl) <| qv (fun w hS => yLdB rfl isAgg3 (hS.at _) h0) <| qv (fun w hS => fa69_0 rfl) <| qv (fun w hS => yLdB rfl isAgg3 (hS.at _) rfl) <| qv (fun w hS => yAdd rfl rfl hlo) <| qv (fun w hS => yNil rfl) ?_
 refine qv (fun w hS => fa219_0 rfl) <| qv (fun w hS => fa69_0 rfl) ?_
 clear hS; refine qtl (fun w hS => ?_)
 refine sst hS rfl rfl sizeOf3 rfl rfl (by rw [Nat.ble_eq]; omega) rfl ?_; clear hS; intro w hS
 refine nil <| cwQ <| region_tail mixed 11 (by kernel_rfl) hS <| qv (fun w hS => yMove rfl) <| qv (fun w hS => yNil rfl) <| qv (fun w hS => fa219_0 rfl) <| qv (fun w hS => fa69_1 rfl) <| qv (fun w hS => yLdB rfl isAgg3 (hS.at _) ((splice_get cs o _ hlen).trans h1)) <| qv (fun w hS => fa69_1 rfl) <| qv (fun w hS => yLdB rfl isAgg3 (hS.at _) rfl) <| qv (fun w hS => yAdd rfl rfl hhi) <| qv (fun w hS => yNil rfl) <| qv (fun w hS => fa219_0 rfl) ?_
 refine qv (fun w hS => fa69_1 rfl) ?_
 clear hS; refine qtl (fun w hS => ?_)
 refine sst hS rfl rfl sizeOf3 rfl rfl (ble_splice (k := 1) rfl (by omega) (by omega)) rfl fun w hS => ?_
 refine nil ?_
 show bodyPost _ _ _ .normal _ _
 refine retN (results_none rfl _ _ _) ?_
 refine ⟨rfl, ?_⟩
 have h := hS.isPut
 have e := splice_two cs o (.int .i64 (lo + x.lo)) (.int .i64 (hi + x.hi)) hlen
 exact e ▸ h
theorem c_parts1 {bp bc : Nat} {Tp Tc : TypeId} {c : Const} {a : Option Addr} {cap : Nat} {pv : Int} {wb w0 : World} (hp : w0.heap[bp]? = some (.cells [.int .i64 pv].toArray Tp (0, 0))) (hc : w0.heap[bc]? = some (.cells [.string c.name, .slice a c.heights.length cap, .int .i64 c.off, .int .i64 c.step, .int .i64 c.den, .int .i64 c.slack].toArray Tc (0, 0))) (hne : bc ≠ bp) (hok : ConstOk c) (hpv : Bd pv 0 (c.den * c.heights.length - 1)) (he : Ext wb w0) (hbp : wb.heap.size ≤ bp) (hsl : Sl wb 1 RInt (.slice a c.heights.length cap) c.heights) : CE Tryz.prog 133 #[ptQ bp, ptQ bc] w0 (fun v w' => v = .agg (spanC (partP c pv)).toArray ∧ Put bp (.cells [.int .i64 ((pv + c.step) % (c.den * c.heights.length))].toArray Tp (0, 0)) w0 w') := by
 refine enter func133 rfl ntmps133 rfl ?_
 have hS := StX.start1 (b := bp) ⟨_, hp, rfl⟩
 obtain ⟨a1, cap1, hae, hq1, hq2, hel⟩ := id hsl
 obtain ⟨rfl, rfl⟩ := slice_inj hae
 have hqb := quot_bd hok hpv
 have hcy := cyc_pos hok
 have hden := hok.den
 have hln := hok.len
 have hst := hok.step
 have hsk := hok.slack
 have hib := interp_bd hok hpv
 have hm1 : Bd ((pv / c.den + 1) % c.heights.length) 0 (c.heights.length - 1) := ⟨Int.emod_nonneg _ (by omega), by have := Int.emod_lt_of_pos (pv / c.den + 1) (show 0 < (c.heights.length : Int) by omega); omega⟩
 have hh0 := height_bd hok (pv / c.den).toNat
 have hh1 := height_bd hok ((pv / c.den + 1) % c.heights.length).toNat
 have hmb := mul_bd (B := 1000) hh0 ⟨show 0 ≤ c.den by omega, hden.2⟩ (by decide)
 have hmb2 := mul_bd (a := c.heights.getD ((pv / c.den + 1) % c.heights.length).toNat 0 - c.heights.getD (pv / c.den).toNat 0) (A := 20000) (B := 1000) ⟨by omega, by omega⟩ ⟨hqb.2.1, by omega⟩ (by decide)
 obtain ⟨b2, o2, cs2, ha2, hlen2, hcs2, hR2⟩ := hel (pv / c.den).toNat (by omega)
 obtain ⟨rfl, _⟩ := hR2
 rw [show c.heights[(pv / c.den).toNat] = c.heights.getD (pv / c.den).toNat 0 from getD_at _ _ (by omega)] at hcs2
 obtain ⟨b3, o3, cs3, ha3, hlen3, hcs3, hR3⟩ := hel ((pv / c.den + 1) % c.heights.length).toNat (by omega)
 obtain ⟨rfl, _⟩ := hR3
 rw [show c.heights[((pv / c.den + 1) % c.heights.length).toNat] = c.heights.getD ((pv / c.den + 1) % c.heights.length).toNat 0 from getD_at _ _ (by omega)] at hcs3
 refine seq <| region ?_
 refine salloc hS zeroValue69 rfl fun b2 w hS => ?_
 refine nil <| cwQ <| seq <| region_draw mixed (by kernel_rfl) hS <| qv (fun w hS => yLdB rfl isAgg3 (hS.at _) rfl) <| qv (fun w hS => fa214_4 rfl) <| qv (fun w hS => yLdB rfl isAgg3 (hS.extx.get hc (by simpa using hne)) rfl) <| qv (fun w hS => yQuoP rfl rfl ⟨by omega, by omega⟩ (by omega)) <| qv (fun w hS => yLdB rfl isAgg3 (hS.at _) rfl) <| qv (fun w hS => fa214_4 rfl) <| qv (fun w hS => yLdB rfl isAgg3 (hS.extx.get hc (by simpa using hne)) rfl) <| qv (fun w hS => yRemP rfl rfl (by omega) (by omega)) <| qv (fun w hS => yAsg rfl) ?_
 refine qv (fun w hS => yAsg rfl) ?_
 clear hS; refine qnil (fun w hS => ?_)
 refine cwQ <| seq <| region_draw mixed (by kernel_rfl) hS <| qv (fun w hS => fa214_1 rfl) <| qv (fun w hS => yLdB rfl isAgg30 (hS.extx.get hc (by simpa using hne)) rfl) <| qv (fun w hS => yMove rfl) <| qv (fun w hS => yAddQ rfl rfl) <| qv (fun w hS => fa214_1 rfl) <| qv (fun w hS => yLdB rfl isAgg30 (hS.extx.get hc (by simpa using hne)) rfl) <| qv (fun w hS => yLen rfl underlying30) <| qv (fun w hS => yRemP rfl rfl (by omega) (by omega)) <| qv (fun w hS => yIxQ rfl ha3 rfl runUnderlying30 sizeOf3) <| qv (fun w hS => yLd rfl isAgg3 ((hcs3.ext (hS.extx.old he (by simpa using hbp))).one)) ?_
 refine qv (fun w hS => yAsg rfl) ?_
 clear hS; refine qnil (fun w hS => ?_)
 refine cwQ <| seq <| region_draw mixed (by kernel_rfl) hS <| qv (fun w hS => fa214_1 rfl) <| qv (fun w hS => yLdB rfl isAgg30 (hS.extx.get hc (by simpa using hne)) rfl) <| qv (fun w hS => yMove rfl) <| qv (fun w hS => yIxQ rfl ha2 rfl runUnderlying30 sizeOf3) <| qv (fun w hS => yLd rfl isAgg3 ((hcs2.ext (hS.extx.old he (by simpa using hbp))).one)) <| qv (fun w hS => fa214_4 rfl) <| qv (fun w hS => yLdB rfl isAgg3 (hS.extx.get hc (by simpa using hne)) rfl) <| qv (fun w hS => yMul rfl rfl ⟨by omega, by omega⟩) <| qv (fun w hS => yMove rfl) <| qv (fun w hS => fa214_1 rfl) ?_
 refine qv (fun w hS => yLdB rfl isAgg30 (hS.extx.get hc (by simpa using hne)) rfl) <| qv (fun w hS => yMove rfl) <| qv (fun w hS => yIxQ rfl ha2 rfl runUnderlying30 sizeOf3) <| qv (fun w hS => yLd rfl isAgg3 ((hcs2.ext (hS.extx.old he (by simpa using hbp))).one)) <| qv (fun w hS => ySubQ rfl rfl) <| qv (fun w hS => yMove rfl) <| qv (fun w hS => yMul rfl rfl ⟨by omega, by omega⟩) <| qv (fun w hS => Y.to (yAddQ rfl rfl) (congrArg _ (interp_eq c pv))) <| qv (fun w hS => yAsg rfl) ?_
 clear hS; refine qnil (fun w hS => ?_)
 refine cwQ <| seq <| region_tail mixed 7 (by kernel_rfl) hS <| qv (fun w hS => yLdB rfl isAgg3 (hS.at _) rfl) <| qv (fun w hS => fa214_3 rfl) <| qv (fun w hS => yLdB rfl isAgg3 (hS.extx.get hc (by simpa using hne)) rfl) <| qv (fun w hS => yAddQ rfl rfl) <| qv (fun w hS => yLdBA rfl isAgg214 sizeOf214 (hS.extx.get hc (by simpa using hne)) rfl rfl) <| qcall call107 e1 (fun w hS => c_cycle ⟨by omega, by omega⟩) <| qv (fun w hS => yRemP rfl rfl (by omega) (by omega)) ?_
 clear hS; refine qtl (fun w hS => ?_)
 refine sS hS rfl sizeOf3 fun w hS => ?_
 refine nil <| cwQ <| seq <| region_tail mixed 17 (by kernel_rfl) hS <| qv (fun w hS => yMove rfl) <| qv (fun w hS => fa214_4 rfl) <| qv (fun w hS => yLdB rfl isAgg3 (hS.extx.get hc (by simpa using hne)) rfl) <| qcall call134 e2 (fun w hS => c_floor (by omega) ⟨by omega, by omega⟩) <| qv (fun w hS => fa214_5 rfl) <| qv (fun w hS => yLdB rfl isAgg3 (hS.extx.get hc (by simpa using hne)) rfl) ?_
 have hd1 := div_bd (A := 10000) (show 0 < c.den by omega) hib
 have hd2 := div_bd (a := -interp c pv) (b := c.den) (A := 10000) (by omega) ⟨by omega, by omega⟩
 refine qv (fun w hS => ySubQ rfl rfl) <| qv (fun w hS => yMove rfl) <| qv (fun w hS => yNeg rfl ⟨by omega, by omega⟩) <| qv (fun w hS => fa214_4 rfl) <| qv (fun w hS => yLdB rfl isAgg3 (hS.extx.get hc (by simpa using hne)) rfl) <| qcall call134 e2 (fun w hS => c_floor (by omega) ⟨by omega, by omega⟩) <| qv (fun w hS => yNeg rfl ⟨by omega, by omega⟩) <| qv (fun w hS => fa214_5 rfl) <| qv (fun w hS => yLdB rfl isAgg3 (hS.extx.get hc (by simpa using hne)) rfl) <| qv (fun w hS => yAddQ rfl rfl) <| qv (fun w hS => yBuild zeroValue69 rfl pl69 (.cons rfl rfl (.cons rfl rfl .nil)) rfl) ?_
 clear hS; refine qtl (fun w hS => ?_)
 refine sS hS rfl sizeOf69 fun w hS => ?_
 refine nil <| cwQ <| wp_ret <| retQ (resV1 rfl (rc rfl isAgg69 sizeOf69 (hS.at _) rfl rfl)) ?_
 exact ⟨rfl, hS.isPut⟩
theorem c_parts {c : Const} {a : Option Addr} {cap : Nat} {tick : Int} {w0 : World} (hok : ConstOk c) (ht : Bd tick 0 300000) : CE Tryz.prog 110 #[.agg [.string c.name, .slice a c.heights.length cap, .int .i64 c.off, .int .i64 c.step, .int .i64 c.den, .int .i64 c.slack].toArray, .int .i64 tick] w0 (fun v w' => ∃ bp bc, v = .func (.func 133) #[] [ptQ bp, ptQ bc].toArray ∧ St w0 w' [blk bp [.int .i64 (pAt c tick)] 3, blk bc [.string c.name, .slice a c.heights.length cap, .int .i64 c.off, .int .i64 c.step, .int .i64 c.den, .int .i64 c.slack] 214]) := by
 refine enQ func110 rfl ntmps110 rfl fun hS => ?_
 have hcy := cyc_pos hok
 have hst := hok.step
 have hof := hok.off
 have hmb := mul_bd (a := tick) (b := c.step) (A := 300000) (B := 100000) ⟨by omega, by omega⟩ ⟨by omega, by omega⟩ (by decide)
 rw [Int.mul_comm] at hmb
 have hnn : 0 ≤ c.step * tick := Int.mul_nonneg (by omega) ht.1
 refine seq <| region ?_
 refine sbox hS rfl rfl fun b2 w hS => ?_
 refine vA <| nil <| cwQ <| seq ?_
 refine region_any (C := (fun w => StX [] w0 w [blk b2 [.string c.name, .slice a c.heights.length cap, .int .i64 c.off, .int .i64 c.step, .int .i64 c.den, .int .i64 c.slack] 214])) mixed 8 11 (by kernel_rfl) (fun c a a' w h => by obtain ⟨_, v, hv, _⟩ := h; cases hv) hS (fun _ h => h) ?_
 clear hS; intro w hS
 refine hv (fun w hS => fa214_2 rfl) <| hv (fun w hS => yLdB rfl isAgg3 (hS.at _) rfl) <| hv (fun w hS => fa214_3 rfl) <| hv (fun w hS => yLdB rfl isAgg3 (hS.at _) rfl) <| hv (fun w hS => yMove rfl) <| hv (fun w hS => yMul rfl rfl ⟨by omega, by omega⟩) <| hv (fun w hS => yAddQ rfl rfl) <| hv (fun w hS => yLdBA rfl isAgg214 sizeOf214 (hS.at _) rfl rfl) <| hnil <| awQ ?_
 refine a_step (i := 8) (is := [10]) (by kernel_rfl) ⟨?_, ?_, trivial⟩
 ·
  refine ⟨_, rfl, ?_⟩
  refine scV hS call107 e1 (c_cycle ⟨by omega, by omega⟩) fun w hS => ?_
  refine nil ?_
  refine ⟨fun _ => hS.sub lrQ, ?_⟩
  refine awQ ?_
  refine a_step (i := 9) (is := [10]) (by kernel_rfl) ⟨?_, ?_, trivial⟩
  ·
   refine ⟨_, rfl, ?_⟩
   refine sv (yRemP rfl rfl (by omega) (by omega)) <| nil ?_
   refine ⟨fun _ => hS.sub lrQ, ?_⟩
   refine awQ <| a1Q 10 rfl ?_
   refine salloc hS zeroValue3 rfl fun b5 w hS => ?_
   refine nil ?_
   refine ⟨fun _ => hS.sub (.cons _ lrQ), ?_⟩
   refine awQ <| a1Q 11 rfl ?_
   refine sS hS rfl sizeOf3 fun w hS => ?_
   refine nil ?_
   refine ⟨fun h => absurd h (by decide), ?_⟩
   refine awQ <| a_end (by kernel_rfl) <| cwQ <| seq <| region <| sv (yFn e2) <| vA <| nil <| cwQ <| wp_ret <| retQ (res1 rfl rfl) ?_
   exact ⟨b5, b2, rfl, hS⟩
  refine ⟨_, rfl, ?_⟩
  refine salloc hS zeroValue3 rfl fun b5 w hS => ?_
  refine nil ?_
  refine ⟨fun _ => hS.sub (.cons _ lrQ), ?_⟩
  refine awQ <| a1Q 9 rfl <| sv (yRemP rfl rfl (by omega) (by omega)) <| nil ?_
  refine ⟨fun _ => hS.sub (.cons _ lrQ), ?_⟩
  refine awQ <| a1Q 11 rfl ?_
  refine sS hS rfl sizeOf3 fun w hS => ?_
  refine nil ?_
  refine ⟨fun h => absurd h (by decide), ?_⟩
  refine awQ <| a_end (by kernel_rfl) <| cwQ <| seq <| region <| sv (yFn e2) <| vA <| nil <| cwQ <| wp_ret <| retQ (res1 rfl rfl) ?_
  exact ⟨b5, b2, rfl, hS⟩
 refine ⟨_, rfl, ?_⟩
 refine salloc hS zeroValue3 rfl fun b5 w hS => ?_
 refine nil ?_
 refine ⟨fun _ => hS.sub (.cons _ lrQ), ?_⟩
 refine awQ <| a1Q 8 rfl ?_
 refine scV hS call107 e1 (c_cycle ⟨by omega, by omega⟩) fun w hS => ?_
 refine nil ?_
 refine ⟨fun _ => hS.sub (.cons _ lrQ), ?_⟩
 refine awQ <| a1Q 9 rfl <| sv (yRemP rfl rfl (by omega) (by omega)) <| nil ?_
 refine ⟨fun _ => hS.sub (.cons _ lrQ), ?_⟩
 refine awQ <| a1Q 11 rfl ?_
 refine sS hS rfl sizeOf3 fun w hS => ?_
 refine nil ?_
 refine ⟨fun h => absurd h (by decide), ?_⟩
 refine awQ <| a_end (by kernel_rfl) <| cwQ <| seq <| region <| sv (yFn e2) <| vA <| nil <| cwQ <| wp_ret <| retQ (res1 rfl rfl) ?_
 exact ⟨b5, b2, rfl, hS⟩
theorem c_levels {t : Table} {cv : Value} {from_ : Int} {n : Nat} {w0 : World} (hsl : Sl w0 6 RConst cv t.consts) (hok : TableOk t) (hf : Bd from_ 0 200000) (hn : n ≤ 400) : CE Tryz.prog 64 #[.agg [.int .i64 t.mean, cv].toArray, .int .i64 from_, .int .i64 (n : Int)] w0 (fun v w' => St w0 w' [rowI v 69 2 n (((List.range n).map fun (i : Nat) => lvlT t (from_ + i)).flatMap spanC)]) := by
 obtain ⟨a, cap, rfl, hcap, hmx, hel⟩ := hsl
 have hmean := hok.mean
 have hlen12 := hok.len
 refine enQ func64 rfl ntmps64 rfl fun hS => ?_
 refine seq <| region ?_
 refine sbox hS rfl rfl fun b3 w hS => ?_
 refine vA <| nil <| cwQ <| seq <| region <| vM ?_
 refine smake (bytes := 16) (zs := [.int .i64 0, .int .i64 0]) (m := n) hS rfl rfl underlying217 ti219 rfl rfl rfl rfl rfl (by omega) (by omega) ?_; clear hS; intro b17 w hS
 rw [rep_flat] at hS
 refine vA <| nil <| cwQ <| seq <| seq <| region <| vM <| sv (yLen rfl underlying217) <| vM <| nil <| cwQ <| block <| loop (fun f w zz => ∃ (k : Nat) (l : List Span), f 1 = .int .i64 from_ ∧ f 3 = ptQ b3 ∧ f 7 = .slice (some ⟨b17, 0, none⟩) n n ∧ f 19 = .int .i64 (n : Int) ∧ f 20 = .int .i64 (k : Int) ∧ StX [] w0 w [blk b17 (l.flatMap spanC) 219, blk b3 [.int .i64 t.mean, .slice a t.consts.length cap] 24] ∧ (k ≤ n) ∧ (l.length = n) ∧ (∀ i, i < n → l[i]? = some (if i < k then ⟨t.mean, t.mean⟩ else ⟨0, 0⟩)) ∧ zz = n - k) _ ⟨_, rfl, 0, _, rfl, rfl, rfl, rfl, rfl, hS, (Nat.zero_le _), (List.length_replicate), (fun i hi => by simp [hi]), rfl⟩ ?_
 clear hS
 rintro f w _ ⟨k, l, h1, h3, h7, h19, h20, hS, hk, hll, hrow, rfl⟩
 refine seq <| region <| sv (yLss h20 h19) <| nil <| cwQ <| seq ?_
 refine cond rfl ?_ ?_ <;> intro c21 <;> simp only [BS, ne_eq] at c21
 ·
  refine skip <| cwQ <| seq <| block <| seq <| region <| sv (yMove h20) <| vA <| nil <| cwQ <| region_tail mixed 8 (by kernel_rfl) hS ?_
  have hrow_k := hrow k (by omega)
  rw [if_neg (Nat.lt_irrefl k)] at hrow_k
  refine qv (fun w hS => yMove h7) <| qv (fun w hS => yMove rfl) <| qv (fun w hS => yIx0 rfl rfl runUnderlying217 sizeOf219 (by omega)) <| qv (fun w hS => fa24_0 h3) <| qv (fun w hS => yLdB rfl isAgg3 (hS.at _) rfl) <| qv (fun w hS => fa24_0 h3) <| qv (fun w hS => yLdB rfl isAgg3 (hS.at _) rfl) <| qv (fun w hS => yBuild zeroValue69 rfl pl69 (.cons rfl rfl (.cons rfl rfl .nil)) rfl) ?_
  clear hS; refine qtl (fun w hS => ?_)
  refine scall call109 e2 (c_add (o := k * 2) (lo := 0) (hi := 0) (x := ⟨t.mean, t.mean⟩) (blk0 (hS.at b17)) (flat2 spanC_len hrow_k 0 rfl) (flat2 spanC_len hrow_k 1 rfl) ⟨by simp only []; omega, by simp only []; omega⟩ ⟨by simp only []; omega, by simp only []; omega⟩) ?_; rintro _ w ⟨rfl, hput⟩; replace hS := hS.put hput; clear hput; simp only [Int.zero_add] at hS
  refine nil <| cwQ <| region <| sv (yAddQ h20 rfl) <| vM <| nil ?_
  exact ⟨_, _, rfl, ⟨k + 1, l.set k ⟨t.mean, t.mean⟩, h1, h3, h7, h19, rfl, (by rw [← splice_enc spanC_len l k _ (by omega)]; exact hS), (by omega), (by simpa using hll), (set_get (A := fun _ => ⟨t.mean, t.mean⟩) (B := fun _ => ⟨0, 0⟩) hll (by omega) rfl hrow), rfl⟩, by omega⟩
 refine exit <| cwQ <| seq <| seq <| region <| sv (fa24_1 h3) <| vL rfl isAgg22 hS rfl <| sv (yLen rfl underlying22) <| vM <| nil <| cwQ <| block ?_
 obtain rfl : n = k := by omega
 refine loop (fun f w zz => ∃ (k : Nat) (l : List Span), f 1 = .int .i64 from_ ∧ f 7 = .slice (some ⟨b17, 0, none⟩) n n ∧ f 34 = .slice a t.consts.length cap ∧ f 35 = .int .i64 (t.consts.length : Int) ∧ f 36 = .int .i64 (k : Int) ∧ StX [] w0 w [blk b17 (l.flatMap spanC) 219] ∧ (k ≤ t.consts.length) ∧ (l.length = n) ∧ (∀ i, i < n → l[i]? = some (lvl t.mean (t.consts.take k) (from_ + i))) ∧ zz = t.consts.length - k) _ ⟨_, rfl, 0, _, h1, h7, rfl, rfl, rfl, (hS.sub (.cons_cons _ (List.nil_sublist _))), (Nat.zero_le _), (hll), (fun i hi => by rw [hrow i hi, if_pos hi]; rfl), rfl⟩ ?_
 clear hS
 rintro f w _ ⟨k, l, h1, h7, h34, h35, h36, hS, hk, hll, hrow, rfl⟩
 refine seq <| region <| sv (yLss h36 h35) <| nil <| cwQ <| seq ?_
 refine cond rfl ?_ ?_ <;> intro c37 <;> simp only [BS, ne_eq] at c37
 ·
  refine skip <| cwQ <| seq <| block <| seq <| region ?_
  obtain ⟨c, hx, hd⟩ := drop_of (l := t.consts) (k := k) (by omega)
  have hcok : ConstOk c := hok.consts c (List.mem_of_getElem? hx)
  obtain ⟨b, o, cs, ha, hlen, hcs, hR⟩ := hel k (by omega)
  obtain rfl : c = t.consts[k] := (List.getElem?_eq_some_iff.1 hx).2.symm
  generalize t.consts[k] = c at hx hd hR hcok
  obtain ⟨hv, rfl, hn1, hsl1, _, _, _, _⟩ := hR
  obtain ⟨a1, cap1, rfl, hq1, hq2, hq3⟩ := id hsl1
  refine sv (yIxQ h34 ha h36 runUnderlying22 sizeOf214) <| sv (yLdA rfl isAgg214 sizeOf214 (hcs.ext hS.ext) rfl) ?_
  refine salloc hS zeroValue214 rfl fun b10 w hS => ?_
  refine sS hS rfl sizeOf214 fun w hS => ?_
  refine nil <| cwQ <| seq <| region <| sv (yLdBA rfl isAgg214 sizeOf214 (hS.at _) rfl rfl) <| sv (yMove h1) ?_
  refine scall call110 e2 (c_parts hcok ⟨by omega, by omega⟩) ?_
  rintro _ w ⟨bp, bc, rfl, hM⟩; replace hS := hS.call hM; clear hM
  refine vA <| nil <| cwQ <| seq <| region <| sv (yMove h7) <| sv (yLen rfl underlying217) <| vM <| nil <| cwQ <| block ?_
  refine loop (fun f w zz => ∃ (j : Nat) (l : List Span), f 1 = .int .i64 from_ ∧ f 7 = .slice (some ⟨b17, 0, none⟩) n n ∧ f 11 = .func (.func 133) #[] [ptQ bp, ptQ bc].toArray ∧ f 34 = .slice a t.consts.length cap ∧ f 35 = .int .i64 (t.consts.length : Int) ∧ f 36 = .int .i64 (k : Int) ∧ f 44 = .int .i64 (n : Int) ∧ f 45 = .int .i64 (j : Int) ∧ StX [] w0 w [blk bp [.int .i64 (pAt c (from_ + j))] 3, blk bc [.string c.name, .slice a1 c.heights.length cap1, .int .i64 c.off, .int .i64 c.step, .int .i64 c.den, .int .i64 c.slack] 214, blk b17 (l.flatMap spanC) 219] ∧ (j ≤ n) ∧ (l.length = n) ∧ (∀ i, i < n → l[i]? = some (if i < j then lvl t.mean (t.consts.take (k + 1)) (from_ + i) else lvl t.mean (t.consts.take k) (from_ + i))) ∧ zz = n - j) _ ⟨_, rfl, 0, _, h1, h7, rfl, h34, h35, h36, rfl, rfl, (by rw [show from_ + ((0 : Nat) : Int) = from_ from Int.add_zero _]; exact hS.sub (.cons_cons _ (.cons_cons _ (.cons _ lrQ)))), (Nat.zero_le _), (hll), (fun i hi => by rw [hrow i hi]; simp), rfl⟩ ?_
  clear hS
  rintro f w _ ⟨j, l, h1, h7, h11, h34, h35, h36, h44, h45, hS, hj, hll, hrow, rfl⟩
  refine seq <| region <| sv (yLss h45 h44) <| nil <| cwQ <| seq ?_
  refine cond rfl ?_ ?_ <;> intro c46 <;> simp only [BS, ne_eq] at c46
  ·
   refine skip <| cwQ <| seq <| block <| seq <| region <| sv (yMove h45) <| vA <| nil <| cwQ ?_
   refine region_any (C := (fun _ => True)) mixed 4 6 (by kernel_rfl) (fun c a a' w h => by obtain ⟨_, v, hv, _⟩ := h; cases hv) hS (fun _ _ => trivial) ?_
   clear hS; intro w hS
   have hrow_k := hrow j (by omega)
   rw [if_neg (Nat.lt_irrefl j)] at hrow_k
   have hlb := lvl_bd hmean (t.consts.take k) (from_ + j) (fun x hx => hok.consts x (List.mem_of_mem_take hx))
   have htl : (t.consts.take k).length ≤ 12 := by simp; omega
   have hpb := partP_bd hcok (pAt_bd hcok (from_ + j))
   refine hv (fun w hS => yMove h7) <| hv (fun w hS => yMove rfl) <| hv (fun w hS => yIx0 rfl rfl runUnderlying217 sizeOf219 (by omega)) <| hv (fun w hS => yMove h11) <| hnil <| awQ <| a1Q 4 rfl ?_
   refine scallf rfl call133 .nil (c_parts1 (hS.at bp) (hS.at bc) (hS.ne2 (by simp [fps, cellI])) hcok (pAt_bd hcok _) hS.ext (hS.owned (by simp [fps, cellI])) hsl1) ?_; rintro _ w ⟨rfl, hput⟩; replace hS := hS.put hput; clear hput
   refine nil ?_
   refine ⟨fun _ => trivial, ?_⟩
   refine awQ <| a1Q 5 rfl ?_
   refine scall call109 e2 (c_add (o := j * 2) (x := partP c (pAt c (from_ + j))) (blk0 (hS.at b17)) (flat2 spanC_len hrow_k 0 rfl) (flat2 spanC_len hrow_k 1 rfl) ⟨by omega, by omega⟩ ⟨by omega, by omega⟩) ?_; rintro _ w ⟨rfl, hput⟩; replace hS := hS.put hput; clear hput
   refine nil ?_
   refine ⟨fun _ => trivial, ?_⟩
   refine awQ <| a_end (by kernel_rfl) <| cwQ <| region <| sv (yAddQ h45 rfl) <| vM <| nil ?_
   exact ⟨_, _, rfl, ⟨j + 1, l.set j (addS (lvl t.mean (t.consts.take k) (from_ + j)) (partP c (pAt c (from_ + j)))), h1, h7, h11, h34, h35, h36, h44, rfl, (by rw [← splice_enc spanC_len l j _ (by omega), show from_ + ((j + 1 : Nat) : Int) = from_ + j + 1 by omega, ← pAt_succ]; exact hS), (by omega), (by simpa using hll), (set_get (A := fun (i : Nat) => lvl t.mean (t.consts.take (k + 1)) (from_ + i)) (B := fun (i : Nat) => lvl t.mean (t.consts.take k) (from_ + i)) hll (by omega) (lvl_take hx t.mean (from_ + j)).symm hrow), rfl⟩, by omega⟩
  refine exit <| cwQ <| region <| sv (yAddQ h36 rfl) <| vM <| nil ?_
  obtain rfl : n = j := by omega
  exact ⟨_, _, rfl, ⟨k + 1, _, h1, h7, h34, h35, rfl, (hS.sub (.cons _ (.cons _ (.cons_cons _ (List.nil_sublist _))))), (by omega), (hll), (fun i hi => by rw [hrow i hi, if_pos hi]), rfl⟩, by omega⟩
 refine exit <| cwQ <| seq <| region <| vA <| nil <| cwQ <| seq <| seq <| region <| sv (yMove h7) <| sv (yLen rfl underlying217) <| vM ?_
 refine nil <| cwQ <| block ?_
 obtain rfl : k = t.consts.length := by omega
 refine loop (fun f w zz => ∃ (j : Nat) (v : Value), f 13 = v ∧ f 56 = .slice (some ⟨b17, 0, none⟩) n n ∧ f 57 = .int .i64 (n : Int) ∧ f 58 = .int .i64 (j : Int) ∧ StX [] w0 w [rowI v 69 2 j (((List.range j).map fun (i : Nat) => lvlT t (from_ + i)).flatMap spanC), blk b17 (l.flatMap spanC) 219] ∧ (j ≤ n) ∧ (l.length = n) ∧ (∀ i, i < n → l[i]? = some (lvlT t (from_ + i))) ∧ zz = n - j) _ ⟨_, rfl, 0, _, rfl, rfl, rfl, rfl, (hS.nilrow 69 2), (Nat.zero_le _), (hll), (fun i hi => by rw [hrow i hi, List.take_length]; rfl), rfl⟩ ?_
 clear hS
 rintro f w _ ⟨j, v, h13, h56, h57, h58, hS, hj, hll, hrow, rfl⟩
 refine seq <| region <| sv (yLss h58 h57) <| nil <| cwQ <| seq ?_
 refine cond rfl ?_ ?_ <;> intro c59 <;> simp only [BS, ne_eq] at c59
 ·
  refine skip <| cwQ <| seq <| block <| seq <| region ?_
  have hrow_j := hrow j (by omega)
  refine sv (yIx0 h56 h58 runUnderlying217 sizeOf219 (by omega)) <| sv (yLdA rfl isAgg219 sizeOf219 (flat_cells0 spanC_len (blk_cells (hS.at b17)) hrow_j) rfl) ?_
  refine salloc hS zeroValue219 rfl fun b15 w hS => ?_
  refine sS hS rfl sizeOf219 fun w hS => ?_
  refine nil <| cwQ <| region <| sv (yMove h13) <| sv (fa219_0 rfl) <| sv (yLdBA rfl isAgg69 sizeOf69 (hS.at _) rfl rfl) ?_
  refine sbslice hS underlying65 sizeOf69 rfl zeroValue69 rfl (.cons rfl rfl .nil) rfl fun b65 w hS => ?_
  refine sapp (bytes := 16) (size := 2) (v := v) (m := 1) hS rfl rfl underlying65 ti69 rfl rfl rfl rfl (by decide) (blk_cells (hS.at _)) rfl rfl (by omega) (by omega) ?_; clear hS; intro v66 w hS
  refine vA <| nil <| cwQ <| region <| sv (yAddQ h58 rfl) <| vM <| nil ?_
  exact ⟨_, _, rfl, ⟨j + 1, _, rfl, h56, h57, rfl, (by rw [List.range_succ, List.map_append, List.flatMap_append]; exact hS.sub (.cons _ (.cons _ lrQ))), (by omega), (hll), (hrow), rfl⟩, by omega⟩
 refine exit <| cwQ <| seq <| region <| sv (yMove h13) <| vA <| nil <| cwQ ?_
 obtain rfl : n = j := by omega
 refine wp_ret <| retQ (res1 rfl rfl) ?_
 show St w0 w [rowI v 69 2 n _]; exact hS.one _
theorem c_ticks1 {h : Int} {w0 : World} : CV Tryz.prog 132 #[.int .i64 h] w0 (.bool (outB h 0 200000)) := by
 refine enQ func132 rfl ntmps132 rfl fun hS => ?_
 refine seq <| region <| vA <| nil <| cwQ <| seq <| region <| vM ?_
 refine scV hS call100 e3 c_out fun w hS => ?_
 refine vA <| nil <| cwQ <| wp_ret ?_
 exact rvQ hS
theorem c_ticks {l : List Int} {v : Value} {w0 : World} (hsl : Sl w0 1 RInt v l) : CV Tryz.prog 108 #[v] w0 (.int .i64 (ticksE l)) := by
 refine enQ func108 rfl ntmps108 rfl fun hS => ?_
 refine seq <| region <| vA <| nil <| cwQ <| seq <| seq <| region <| vM ?_
 refine scV hS call51 e2 (c_ContainsFuncInt (cl := []) (hsl.ext RInt.stays hS.ext) call132 (fun x cs w _ _ _ => c_ticks1)) fun w hS => ?_
 refine nil <| cwQ ?_
 refine cond rfl (fun c4 => ?_) (fun c4 => ?_)
 ·
  refine seq <| region <| vA <| nil <| cwQ ?_
  refine wp_ret (thenR ?_)
  exact retV (res1 rfl (eqI (by unfold ticksE; rw [if_pos c4]))) hS.ext
 refine skip <| cwQ <| seq <| region <| vA <| nil <| cwQ <| wp_ret ?_
 exact retV (res1 rfl (eqI (by unfold ticksE; rw [if_neg (by rw [c4]; decide)]))) hS.ext
theorem c_CheckGauge1 {b : Nat} {T : TypeId} {g : Gauge} {dv rv : Value} {w0 : World} (hb : w0.heap[b]? = some (.cells [.string g.name, .int .i64 g.err, .int .i64 g.rate, dv, rv].toArray T (0, 0))) (hs : g.name.size ≤ 9223372036854775807) : CV Tryz.prog 126 #[ptQ b] w0 (.bool (!isName g.name)) := by
 refine enQ func126 rfl ntmps126 rfl fun hS => ?_
 refine seq <| region <| vA <| nil <| cwQ <| seq <| region <| sv (fa201_0 rfl) <| sv (yLdB rfl isAgg9 (hS.ext.get hb) rfl) ?_
 refine scV hS call88 e1 (c_Name hs) fun w hS => ?_
 refine sv (yNot rfl) <| vA <| nil <| cwQ <| wp_ret ?_
 exact rvQ hS
theorem c_CheckGauge2 {b : Nat} {T : TypeId} {g : Gauge} {dv rv : Value} {w0 : World} (hb : w0.heap[b]? = some (.cells [.string g.name, .int .i64 g.err, .int .i64 g.rate, dv, rv].toArray T (0, 0))) : CV Tryz.prog 127 #[ptQ b] w0 (.bool (outB g.err 0 5000 || outB g.rate 0 5000)) := by
 refine enQ func127 rfl ntmps127 rfl fun hS => ?_
 refine seq <| region <| vA <| nil <| cwQ <| seq <| region <| sv (fa201_1 rfl) <| sv (yLdB rfl isAgg3 (hS.ext.get hb) rfl) ?_
 refine scV hS call100 e3 c_out fun w hS => ?_
 refine vM ?_
 refine sg rfl rfl rfl (fun g => (fa201_2 rfl)) (fun v6 g6 => ?_)
 refine sg rfl rfl rfl (fun g => (yLdB (g6.1 g) isAgg3 (hS.ext.get hb) rfl)) (fun v7 g7 => ?_)
 refine sgc hS rfl rfl rfl call100 (fun g => (.cons (g7.1 g) e2)) (fun g => c_out) ?_; clear hS; intro v8 w hS g8
 refine sv (yOr rfl rfl (fun hB => (g8.1 hB))) <| vA <| nil <| cwQ <| wp_ret ?_
 exact rvQ hS
theorem c_CheckGauge {g : Gauge} {cs : List Value} {w0 : World} (hg : RGauge w0 cs g) : CV Tryz.prog 87 #[.agg cs.toArray] w0 (.tuple #[.int .i64 (checkG g).1, .int .i64 (checkG g).2.1, .int .i64 (checkG g).2.2]) := by
 obtain ⟨dv, rv, rfl, hnm, hge, hgr, hsd, hsr⟩ := id hg
 obtain ⟨a, cap, rfl, hcap, hmx, hel⟩ := id hsd
 obtain ⟨a2, cap2, rfl, hcap2, hmx2, hel2⟩ := id hsr
 refine enQ func87 rfl ntmps87 rfl fun hS => ?_
 refine seq <| region ?_
 refine sbox hS rfl rfl fun b1 w hS => ?_
 refine vA <| vA <| vA <| nil <| cwQ <| seq <| region <| sv (yFn e1) <| sv (yBuild zeroValue212 rfl pl212 (.cons rfl rfl (.cons rfl rfl .nil)) rfl) <| sv (yFn e1) <| sv (yBuild zeroValue212 rfl pl212 (.cons rfl rfl (.cons rfl rfl .nil)) rfl) ?_
 refine sbslice hS underlying248 sizeOf212 rfl zeroValue212 rfl (.cons rfl rfl (.cons rfl rfl .nil)) rfl fun b15 w hS => ?_
 refine scV hS call98 e1 (c_first (rs := [⟨126, [ptQ b1], 6, !isName g.name⟩, ⟨127, [ptQ b1], 7, outB g.err 0 5000 || outB g.rate 0 5000⟩]) (hS.at _) ⟨call126, fun w e => c_CheckGauge1 (e.get (hS.at b1)) hnm, fun _ => ⟨call127, fun w e => c_CheckGauge2 (e.get (hS.at b1)), fun _ => trivial⟩⟩ (Nat.le_of_ble_eq_true rfl) (gErr_eq g _ _ _ _)) fun w hS => ?_
 refine vA <| nil <| cwQ <| seq <| block <| seq <| region <| vM <| sv (yNeq rfl rfl) <| vA <| nil <| cwQ ?_
 refine cond rfl ?_ ?_ <;> intro c17 <;> simp only [BS, ne_eq] at c17
 ·
  refine seq <| region <| vM <| vA <| vA <| vA <| nil <| cwQ ?_
  have hfin : checkG g = (1, 0, gErr g) := by unfold checkG; rw [if_pos c17]
  refine wp_ret (blockR (thenR ?_))
  exact retV (res3 rfl (fstI hfin) (thd1I hfin) (thd2I hfin)) hS.ext
 refine seq <| region <| sv (fa201_3 rfl) <| vL rfl isAgg198 hS rfl <| sv (yLen rfl underlying198) ?_
 refine scV hS call100 e3 c_out fun w hS => ?_
 refine vA <| nil <| cwQ ?_
 refine cond rfl (fun c21 => ?_) (fun c21 => ?_)
 ·
  refine seq <| region <| vA <| vA <| vA <| nil <| cwQ ?_
  have hfin : checkG g = (2, 0, 3) := by unfold checkG; rw [if_neg (fun h => h c17), if_pos c21]
  refine wp_ret (blockR (thenR ?_))
  exact retV (res3 rfl (fstI hfin) (thd1I hfin) (thd2I hfin)) hS.ext
 refine skip <| cwQ <| seq <| region <| vA <| nil <| cwQ <| seq <| seq <| region <| sv (fa201_3 rfl) <| vL rfl isAgg198 hS rfl <| sv (yLen rfl underlying198) ?_
 refine vM <| nil <| cwQ <| block ?_
 refine loop (fun f w zz => ∃ (k : Nat) (bef : Int), f 1 = ptQ b1 ∧ f 5 = .int .i64 bef ∧ f 27 = .slice a g.datums.length cap ∧ f 28 = .int .i64 (g.datums.length : Int) ∧ f 29 = .int .i64 (k : Int) ∧ StX [] w0 w [blk b1 [.string g.name, .int .i64 g.err, .int .i64 g.rate, .slice a g.datums.length cap, .slice a2 g.readings.length cap2] 201] ∧ (k ≤ g.datums.length) ∧ (Bd bef (-1) 200000) ∧ (checkG g = checkD (checkRs g) (g.datums.drop k) bef k) ∧ zz = g.datums.length - k) _ ⟨_, rfl, 0, -1, rfl, rfl, rfl, rfl, rfl, (hS.sub (.cons _ (.cons_cons _ (List.nil_sublist _)))), (Nat.zero_le _), (by omega), (by unfold checkG; rw [if_neg (fun h => h c17), if_neg (by rw [c21]; decide)]; rfl), rfl⟩ ?_
 clear hS
 rintro f w _ ⟨k, bef, h1, h5, h27, h28, h29, hS, hk, hb, hI, rfl⟩
 refine seq <| region <| sv (yLss h29 h28) <| nil <| cwQ <| seq ?_
 refine cond rfl ?_ ?_ <;> intro c30 <;> simp only [BS, ne_eq] at c30
 ·
  refine skip <| cwQ <| seq <| block <| seq <| region ?_
  obtain ⟨d, hx, hd⟩ := drop_of (l := g.datums) (k := k) (by omega)
  obtain ⟨b, o, cs, ha, hlen, hcs, hR⟩ := hel (k) (by omega)
  obtain rfl : d = g.datums[k] := (List.getElem?_eq_some_iff.1 hx).2.symm
  generalize g.datums[k] = d at hx hd hR
  obtain ⟨rfl, hd1, hd2, hd3⟩ := hR
  refine sv (yMove h29) <| sv (yIxQ h27 ha h29 runUnderlying198 sizeOf241) <| sv (yLdA rfl isAgg241 sizeOf241 (hcs.ext hS.ext) rfl) ?_
  refine salloc hS zeroValue241 rfl fun b7 w hS => ?_
  refine vA ?_
  refine sS hS rfl sizeOf241 fun w hS => ?_
  refine nil <| cwQ <| seq <| region <| sv (fa241_1 rfl) <| sv (yLdBA rfl isAgg69 sizeOf69 (hS.at _) rfl rfl) ?_
  refine salloc hS zeroValue69 rfl fun b8 w hS => ?_
  refine sS hS rfl sizeOf69 fun w hS => ?_
  refine nil <| cwQ <| seq <| seq <| region <| sv (fa241_0 rfl) <| vL rfl isAgg3 hS rfl <| sv (yMove h5) <| sv (yAddQ rfl rfl) ?_
  refine scV hS call100 e3 c_out fun w hS => ?_
  refine vM ?_
  refine sg rfl rfl rfl (fun g => (yMove rfl)) (fun v42 g42 => ?_)
  refine sg rfl rfl rfl (fun g => (yEql (g42.1 g) rfl)) (fun v43 g43 => ?_)
  refine sg rfl rfl rfl (fun g => (yMove (g43.1 g))) (fun v44 g44 => ?_)
  refine sgg rfl rfl g44 (fun g => (fa241_0 rfl)) (fun v45 g45 => ?_)
  refine sgg rfl rfl g44 (fun g => (yLdB (g45.1 g) isAgg3 (hS.at _) rfl)) (fun v46 g46 => ?_)
  refine sgg rfl rfl g44 (fun g => (yGtr (g46.1 g) rfl)) (fun v47 g47 => ?_)
  refine sg rfl rfl rfl (fun g => (yAnd (g44.1 g) (fun hB => (g47.1 ⟨g, hB⟩)) rfl)) (fun v48 g48 => ?_)
  refine sv (yOr rfl rfl (fun hB => (g48.1 hB))) <| vM ?_
  refine sg rfl rfl rfl (fun g => (fa69_1 rfl)) (fun v51 g51 => ?_)
  refine sg rfl rfl rfl (fun g => (yLdB (g51.1 g) isAgg3 (hS.at _) rfl)) (fun v52 g52 => ?_)
  refine sgc hS rfl rfl rfl call100 (fun g => (.cons (g52.1 g) e2)) (fun g => c_out) ?_; clear hS; intro v53 w hS g53
  refine sv (yOr rfl rfl (fun hB => (g53.1 hB))) <| vM ?_
  refine sg rfl rfl rfl (fun g => (fa69_0 rfl)) (fun v56 g56 => ?_)
  refine sg rfl rfl rfl (fun g => (yLdB (g56.1 g) isAgg3 (hS.at _) rfl)) (fun v57 g57 => ?_)
  refine sg rfl rfl rfl (fun g => (fa69_1 rfl)) (fun v58 g58 => ?_)
  refine sg rfl rfl rfl (fun g => (yLdB (g58.1 g) isAgg3 (hS.at _) rfl)) (fun v59 g59 => ?_)
  refine sgc hS rfl rfl rfl call100 (fun g => (.cons (g57.1 g) (.cons rfl (.cons (g59.1 g) .nil)))) (fun g => c_out) ?_; clear hS; intro v60 w hS g60
  refine sv (yOr rfl rfl (fun hB => (g60.1 hB))) <| nil <| cwQ ?_
  refine cond rfl (fun c61 => ?_) (fun c61 => ?_)
  ·
   refine seq <| region <| vM <| vA <| vA <| vA <| nil <| cwQ ?_
   have hfin : checkG g = (2, (k : Int), 7) := by rw [hI, hd, checkD, if_pos (show datBad bef k d = true from c61)]
   refine wp_ret (thenR (blockR (thenR (thenR (blockR (thenR ?_))))))
   exact retV (res3 rfl (fstI hfin) (thd1I hfin) (thd2I hfin)) hS.ext
  refine skip <| cwQ <| region <| sv (fa241_0 rfl) <| vL rfl isAgg3 hS rfl <| vA <| nil <| cwQ <| region <| sv (yAddQ h29 rfl) <| vM <| nil ?_
  exact ⟨_, _, rfl, ⟨k + 1, d.start, h1, rfl, h27, h28, rfl, (hS.sub (.cons _ (.cons _ lrQ))), (by omega), (by have := datBad_iff.1 c61; omega), (by rw [hI, hd, checkD, if_neg (by rw [show datBad bef k d = false from c61]; decide)]), rfl⟩, by omega⟩
 refine exit <| cwQ <| seq <| seq <| region <| sv (fa201_4 h1) <| vL rfl isAgg199 hS rfl <| sv (yLen rfl underlying199) <| sv (yGtr rfl rfl) <| nil <| cwQ ?_
 refine cond rfl ?_ ?_ <;> intro c69 <;> simp only [BS, ne_eq] at c69
 ·
  obtain rfl : k = g.datums.length := by omega
  rw [List.drop_length, checkD] at hI
  unfold checkRs at hI
  refine seq <| region <| vA <| vA <| vA <| nil <| cwQ ?_
  have hfin : checkG g = (3, 0, 3) := by rw [hI, if_pos c69]
  refine wp_ret (thenR ?_)
  exact retV (res3 rfl (fstI hfin) (thd1I hfin) (thd2I hfin)) hS.ext
 obtain rfl : k = g.datums.length := by omega
 rw [List.drop_length, checkD] at hI
 unfold checkRs at hI
 refine skip <| cwQ <| seq <| region <| vA <| nil <| cwQ <| seq <| seq <| region <| sv (fa201_4 h1) <| vL rfl isAgg199 hS rfl <| sv (yLen rfl underlying199) ?_
 refine vM <| nil <| cwQ <| block ?_
 refine loop (fun f w zz => ∃ (k : Nat) (bef : Int), f 5 = .int .i64 bef ∧ f 71 = .slice a2 g.readings.length cap2 ∧ f 72 = .int .i64 (g.readings.length : Int) ∧ f 73 = .int .i64 (k : Int) ∧ StX [] w0 w [] ∧ (k ≤ g.readings.length) ∧ (Bd bef (-1) 200000) ∧ (checkG g = checkR (g.readings.drop k) bef k) ∧ zz = g.readings.length - k) _ ⟨_, rfl, 0, -1, rfl, rfl, rfl, rfl, (hS.sub (List.nil_sublist _)), (Nat.zero_le _), (by omega), (by rw [hI, if_neg (by omega)]; rfl), rfl⟩ ?_
 clear hS
 rintro f w _ ⟨k, bef, h5, h71, h72, h73, hS, hk, hb, hI, rfl⟩
 refine seq <| region <| sv (yLss h73 h72) <| nil <| cwQ <| seq ?_
 refine cond rfl ?_ ?_ <;> intro c74 <;> simp only [BS, ne_eq] at c74
 ·
  refine skip <| cwQ <| seq <| block <| seq <| region ?_
  obtain ⟨r, hx, hd⟩ := drop_of (l := g.readings) (k := k) (by omega)
  obtain ⟨b, o, cs, ha, hlen, hcs, hR⟩ := hel2 (k) (by omega)
  obtain rfl : r = g.readings[k] := (List.getElem?_eq_some_iff.1 hx).2.symm
  generalize g.readings[k] = r at hx hd hR
  obtain ⟨rfl, hr1, hr2⟩ := hR
  refine sv (yMove h73) <| sv (yIxQ h71 ha h73 runUnderlying199 sizeOf243) <| sv (yLdA rfl isAgg243 sizeOf243 (hcs.ext hS.ext) rfl) ?_
  refine salloc hS zeroValue243 rfl fun b10 w hS => ?_
  refine vA ?_
  refine sS hS rfl sizeOf243 fun w hS => ?_
  refine nil <| cwQ <| seq <| seq <| region <| sv (fa243_0 rfl) <| vL rfl isAgg3 hS rfl <| sv (yMove h5) <| sv (yAddQ rfl rfl) ?_
  refine scV hS call100 e3 c_out fun w hS => ?_
  refine vM ?_
  refine sg rfl rfl rfl (fun g => (fa243_1 rfl)) (fun v84 g84 => ?_)
  refine sg rfl rfl rfl (fun g => (yLdB (g84.1 g) isAgg3 (hS.at _) rfl)) (fun v85 g85 => ?_)
  refine sgc hS rfl rfl rfl call100 (fun g => (.cons (g85.1 g) e2)) (fun g => c_out) ?_; clear hS; intro v86 w hS g86
  refine sv (yOr rfl rfl (fun hB => (g86.1 hB))) <| nil <| cwQ ?_
  refine cond rfl (fun c87 => ?_) (fun c87 => ?_)
  ·
   refine seq <| region <| vM <| vA <| vA <| vA <| nil <| cwQ ?_
   have hfin : checkG g = (3, (k : Int), 7) := by rw [hI, hd, checkR, if_pos (show readBad bef r = true from c87)]
   refine wp_ret (thenR (blockR (thenR (thenR (blockR (thenR ?_))))))
   exact retV (res3 rfl (fstI hfin) (thd1I hfin) (thd2I hfin)) hS.ext
  refine skip <| cwQ <| region <| sv (fa243_0 rfl) <| vL rfl isAgg3 hS rfl <| vA <| nil <| cwQ <| region <| sv (yAddQ h73 rfl) <| vM <| nil ?_
  exact ⟨_, _, rfl, ⟨k + 1, r.tick, rfl, h71, h72, rfl, (hS.sub (List.nil_sublist _)), (by omega), (by have := readBad_iff.1 c87; omega), (by rw [hI, hd, checkR, if_neg (by rw [show readBad bef r = false from c87]; decide)]), rfl⟩, by omega⟩
 refine exit <| cwQ <| seq <| region <| vA <| vA <| vA <| nil <| cwQ ?_
 obtain rfl : k = g.readings.length := by omega
 have hfin : checkG g = (0, 0, 0) := by rw [hI, List.drop_length]; rfl
 refine wp_ret ?_
 exact retV (res3 rfl (fstI hfin) (thd1I hfin) (thd2I hfin)) hS.ext
theorem c_isNaN {a : Int} {w0 : World} : CV Tryz.prog 150 #[.int .i64 a] w0 (.bool false) := by
 refine enQ func150 rfl ntmps150 rfl fun hS => ?_
 refine seq <| region <| vA <| nil <| cwQ <| seq <| region <| vM <| vM <| sv (yNeq rfl rfl) <| vA <| nil <| cwQ ?_
 refine wp_ret ?_
 exact retV (res1 rfl (eqB (by simp))) hS.ext
theorem c_Compare {a b : Int} {w0 : World} : CV Tryz.prog 125 #[.int .i64 a, .int .i64 b] w0 (.int .i64 (cmpI a b)) := by
 refine enQ func125 rfl ntmps125 rfl fun hS => ?_
 refine seq <| region <| vA <| nil <| cwQ <| seq <| region <| vM ?_
 refine scV hS call150 e1 c_isNaN fun w hS => ?_
 refine vA <| nil <| cwQ <| seq <| region <| vM ?_
 refine scV hS call150 e1 c_isNaN fun w hS => ?_
 refine vA <| nil <| cwQ <| seq <| seq <| region <| vM <| nil <| cwQ ?_
 refine cond rfl (fun c11 => ?_) (fun c11 => ?_)
 ·
  exact absurd c11 (by decide)
 refine skip <| cwQ <| seq <| seq <| region <| vM <| nil <| cwQ ?_
 refine cond rfl (fun c13 => ?_) (fun c13 => ?_)
 ·
  exact absurd c13 (by decide)
 refine skip <| cwQ <| seq <| seq <| region <| vM <| vM <| sv (yLss rfl rfl) <| nil <| cwQ ?_
 refine cond rfl ?_ ?_ <;> intro c16 <;> simp only [BS, ne_eq] at c16
 ·
  refine seq <| region <| vA <| nil <| cwQ ?_
  refine wp_ret (thenR ?_)
  exact retV (res1 rfl (eqI (by unfold cmpI; rw [if_pos c16]))) hS.ext
 refine skip <| cwQ <| seq <| seq <| region <| vM <| vM <| sv (yGtr rfl rfl) <| nil <| cwQ ?_
 refine cond rfl ?_ ?_ <;> intro c19 <;> simp only [BS, ne_eq] at c19
 ·
  refine seq <| region <| vA <| nil <| cwQ ?_
  refine wp_ret (thenR ?_)
  exact retV (res1 rfl (eqI (by unfold cmpI; rw [if_neg c16, if_pos c19]))) hS.ext
 refine skip <| cwQ <| seq <| region <| vA <| nil <| cwQ <| wp_ret ?_
 exact retV (res1 rfl (eqI (by unfold cmpI; rw [if_neg c16, if_neg c19]))) hS.ext
theorem c_datum1 {d : Datum} {t : Int} {w0 : World} : CV Tryz.prog 175 #[.agg (datumC d).toArray, .int .i64 t] w0 (.int .i64 (cmpI d.start t)) := by
 refine enQ func175 rfl ntmps175 rfl fun hS => ?_
 refine seq <| region ?_
 refine sbox hS rfl rfl fun b2 w hS => ?_
 refine vA <| nil <| cwQ <| seq <| region <| sv (fa241_0 rfl) <| vL rfl isAgg3 hS rfl <| vM ?_
 refine scV hS call125 e2 c_Compare fun w hS => ?_
 refine vA <| nil <| cwQ <| wp_ret ?_
 exact rvQ hS
theorem c_SearchDatum {l : List Datum} {v : Value} {t : Int} {w0 : World} (hsl : Sl w0 3 RDatum v l) (hp : l.Pairwise fun a b => a.start < b.start) (hl : l.length ≤ 1000) : CE Tryz.prog 174 #[v, .int .i64 t, .func (.func 175) #[] #[]] w0 (fun v w' => ∃ i is, v = .tuple #[.int .i64 ((i : Nat) : Int), .bool is] ∧ searchD l t i is ∧ Ext w0 w') := by
 obtain ⟨a, cap, rfl, hcap, hmx, hel⟩ := id hsl
 refine enQ func174 rfl ntmps174 rfl fun hS => ?_
 refine seq <| region <| vA <| vA <| nil <| cwQ <| seq <| region <| vM <| sv (yLen rfl underlying198) <| vA <| nil <| cwQ ?_
 refine seq <| region <| vM <| vA <| vA <| nil <| cwQ <| seq <| block ?_
 refine loop (fun f w zz => ∃ (i j : Nat), f 0 = .slice a l.length cap ∧ f 1 = .int .i64 t ∧ f 2 = .func (.func 175) #[] #[] ∧ f 8 = .int .i64 (l.length : Int) ∧ f 9 = .int .i64 (i : Int) ∧ f 10 = .int .i64 (j : Int) ∧ StX [] w0 w [] ∧ (i ≤ j ∧ j ≤ l.length) ∧ (∀ k d, l[k]? = some d → k < i → d.start < t) ∧ (∀ k d, l[k]? = some d → j ≤ k → t ≤ d.start) ∧ zz = j - i) _ ⟨_, rfl, 0, l.length, rfl, rfl, rfl, rfl, rfl, rfl, hS, (⟨Nat.zero_le _, Nat.le_refl _⟩), (fun k d _ h => absurd h (Nat.not_lt_zero k)), (fun k d h h2 => by rw [List.getElem?_eq_none h2] at h; cases h), rfl⟩ ?_
 clear hS
 rintro f w _ ⟨i, j, h0, h1, h2, h8, h9, h10, hS, hij, hlo, hhi, rfl⟩
 refine seq <| seq <| region <| sv (yMove h9) <| sv (yMove h10) <| sv (yLss rfl rfl) <| nil <| cwQ ?_
 refine cond rfl ?_ ?_ <;> intro c17 <;> simp only [BS, ne_eq] at c17
 ·
  refine skip <| cwQ <| block <| seq <| region <| sv (yMove h9) <| sv (yMove h10) <| sv (yAddQ rfl rfl) <| sv (yToU rfl underlying3 underlying224 ⟨by omega, by omega⟩) <| sv (yShr1 rfl rfl) <| sv (Y.to (yToI rfl underlying224 underlying3 ⟨by omega, by omega⟩) (show Value.int .i64 (((i : Int) + (j : Int)) / 2) = .int .i64 (((i + j) / 2 : Nat) : Int) by congr 1)) <| vA <| nil ?_
  refine cwQ <| seq <| region ?_
  obtain ⟨d, hx, hd⟩ := drop_of (l := l) (k := (i + j) / 2) (by omega)
  obtain ⟨b, o, cs, ha, hlen, hcs, hR⟩ := hel ((i + j) / 2) (by omega)
  obtain rfl : d = l[(i + j) / 2] := (List.getElem?_eq_some_iff.1 hx).2.symm
  generalize l[(i + j) / 2] = d at hx hd hR
  obtain ⟨rfl, hd1, hd2, hd3⟩ := hR
  refine sv (yMove h2) <| sv (yMove h0) <| vM <| sv (yIxQ rfl ha rfl runUnderlying198 sizeOf241) <| sv (yLdA rfl isAgg241 sizeOf241 (hcs.ext hS.ext) rfl) <| sv (yMove h1) ?_
  refine scallf rfl call175 e2 c_datum1 ?_
  rintro _ w ⟨rfl, hE⟩; replace hS := hS.step hE; clear hE
  refine sv (yLss rfl rfl) <| nil <| cwQ ?_
  refine cond rfl (fun c31 => ?_) (fun c31 => ?_)
  ·
   simp only [BS, ne_eq, cmpI_lt] at c31
   refine region <| vM <| sv (yAddQ rfl rfl) <| vA <| nil ?_
   exact ⟨_, _, rfl, ⟨(i + j) / 2 + 1, j, h0, h1, h2, h8, rfl, h10, hS, (⟨by omega, by omega⟩), (fun k x hk hkm => by have := asc_le hp hk hx (by omega); omega), (hhi), rfl⟩, by omega⟩
  simp only [BS, ne_eq, cmpI_lt] at c31
  refine region <| vM <| vA <| nil ?_
  exact ⟨_, _, rfl, ⟨i, (i + j) / 2, h0, h1, h2, h8, h9, rfl, hS, (⟨by omega, by omega⟩), (hlo), (fun k x hk hkm => by have := asc_le hp hx hk (by omega); omega), rfl⟩, by omega⟩
 refine exit <| cwQ <| seq <| region ?_
 obtain rfl : i = j := by omega
 obtain ⟨b, o, hk⟩ : ∃ b o, i < l.length → a = some ⟨b, o, none⟩ ∧ Cells w0 b (o + i * 3) (datumC (l.getD i ⟨0, ⟨0, 0⟩⟩)) := by
  by_cases hi : i < l.length
  ·
   obtain ⟨b, o, cs, ha, hlen, hcs, hR⟩ := hel i hi
   exact ⟨b, o, fun _ => ⟨ha, by rw [show l.getD i ⟨0, ⟨0, 0⟩⟩ = l[i] by simp [hi], ← hR.1]; exact hcs⟩⟩
  exact ⟨0, 0, fun h => absurd h hi⟩
 refine sv (yMove h9) <| sv (yMove h9) <| sv (yMove h8) <| sv (yLss rfl rfl) <| vM ?_
 refine sg rfl rfl rfl (fun g => (yMove h2)) (fun v40 g40 => ?_)
 refine sg rfl rfl rfl (fun g => (yMove h0)) (fun v41 g41 => ?_)
 refine sg rfl rfl rfl (fun g => (yMove h9)) (fun v42 g42 => ?_)
 refine sg rfl rfl rfl (fun g => (yIxa (g41.1 g) (hk (by have := of_decide_eq_true g; omega)).1 (g42.1 g) runUnderlying198 sizeOf241 (by omega) (of_decide_eq_true g))) (fun v43 g43 => ?_)
 refine sg rfl rfl rfl (fun g => (yLdA (g43.1 g) isAgg241 sizeOf241 ((hk (by have := of_decide_eq_true g; omega)).2.ext hS.ext) rfl)) (fun v44 g44 => ?_)
 refine sg rfl rfl rfl (fun g => (yMove h1)) (fun v45 g45 => ?_)
 refine sgcf hS rfl rfl rfl (fun g => (g40.1 g)) call175 (fun g => (.cons (g44.1 g) (.cons (g45.1 g) .nil))) (fun g => c_datum1) ?_; clear hS; intro v46 w hS g46
 refine sg rfl rfl rfl (fun g => (yEql (g46.1 g) rfl)) (fun v47 g47 => ?_)
 refine sv (yAnd rfl (fun hB => (g47.1 hB)) rfl) <| vA <| vA <| nil <| cwQ <| wp_ret <| retQ (res2 rfl rfl rfl) ?_
 refine ⟨i, _, rfl, ⟨hij.2, hlo, hhi, ?_⟩, hS.ext⟩
 simp only [Bool.and_eq_true, decide_eq_true_eq, cmpI_eq]
 constructor
 ·
  rintro ⟨h1, h2⟩
  have h1 : i < l.length := by omega
  exact ⟨l[i], by simp [h1], by simpa [h1] using h2⟩
 rintro ⟨d, h1, h2⟩
 have h3 := (List.getElem?_eq_some_iff.1 h1).1
 refine ⟨by omega, ?_⟩
 rw [List.getD_eq_getElem?_getD, h1]; exact h2
theorem c_datum {g : Gauge} {r : Reading} {cs : List Value} {w0 : World} (hg : RGauge w0 cs g) (hok : GaugeOk g) (hr : 0 ≤ r.tick) : CV Tryz.prog 162 #[.agg cs.toArray, .agg (readC r).toArray] w0 (.int .i64 (datI g.datums r.tick : Nat)) := by
 obtain ⟨dv, rv, rfl, hnm, hge, hgr, hsd, hsr⟩ := id hg
 obtain ⟨a, cap, rfl, hcap, hmx, hel⟩ := id hsd
 obtain ⟨a2, cap2, rfl, hcap2, hmx2, hel2⟩ := id hsr
 have hc := cntD_pos hok.len.1 hok.first hr
 have hl8 := hok.len.2
 refine enQ func162 rfl ntmps162 rfl fun hS => ?_
 refine seq <| region ?_
 refine sbox hS rfl rfl fun b2 w hS => ?_
 refine sbox hS rfl rfl fun b3 w hS => ?_
 refine vA <| nil <| cwQ <| seq <| region <| sv (fa201_3 rfl) <| vL rfl isAgg198 hS rfl <| sv (fa243_0 rfl) <| vL rfl isAgg3 hS rfl ?_
 refine scall call174 e3 (c_SearchDatum (hsd.ext RDatum.stays hS.ext) hok.asc (by omega)) ?_
 rintro _ w ⟨i, is, rfl, hse, hE⟩; replace hS := hS.step hE; clear hE; have hse1 := hse.1
 refine vM <| sv (yExt rfl rfl) <| sv (yExt rfl rfl) <| vA <| vA <| nil <| cwQ <| seq <| seq <| region <| vM <| nil <| cwQ ?_
 refine cond rfl (fun c15 => ?_) (fun c15 => ?_)
 ·
  refine seq <| region <| vM <| vA <| nil <| cwQ ?_
  have hfin := searchD_datI hse hok.asc hc
  rw [if_pos c15] at hfin
  refine wp_ret (thenR ?_)
  exact retV (res1 rfl (eqI hfin.symm)) hS.ext
 refine skip <| cwQ <| seq <| region <| vM <| sv (ySubQ rfl rfl) <| vA <| nil <| cwQ ?_
 have hfin := searchD_datI hse hok.asc hc
 rw [if_neg (by rw [c15]; decide)] at hfin
 refine wp_ret ?_
 exact retV (res1 rfl (eqI hfin.symm)) hS.ext
theorem c_around {v e : Int} {s : Span} {w0 : World} (hv : Bd v (-100000) 100000) (he : Bd e 0 2000000000) (hs : Bd s.lo (-100000) 100000 ∧ Bd s.hi (-100000) 100000) : CV Tryz.prog 161 #[.int .i64 v, .int .i64 e, .agg (spanC s).toArray] w0 (.agg (spanC (around v e s)).toArray) := by
 refine enQ func161 rfl ntmps161 rfl fun hS => ?_
 refine seq <| region ?_
 refine sbox hS rfl rfl fun b5 w hS => ?_
 refine salloc hS zeroValue69 rfl fun b6 w hS => ?_
 refine nil <| cwQ <| seq <| region <| vM <| vM <| sv (ySubQ rfl rfl) <| sv (fa69_1 rfl) <| vL rfl isAgg3 hS rfl <| sv (ySubQ rfl rfl) <| vM <| vM <| sv (yAddQ rfl rfl) ?_
 refine sv (fa69_0 rfl) <| vL rfl isAgg3 hS rfl <| sv (ySubQ rfl rfl) <| sv (yBuild zeroValue69 rfl pl69 (.cons rfl rfl (.cons rfl rfl .nil)) rfl) ?_
 refine sS hS rfl sizeOf69 fun w hS => ?_
 refine nil <| cwQ <| wp_ret ?_
 exact retV (resV1 rfl (rc rfl isAgg69 sizeOf69 (hS.at _) rfl rfl)) hS.ext
theorem c_empty {s : Span} {w0 : World} : CV Tryz.prog 163 #[.agg (spanC s).toArray] w0 (.bool (decide (s.hi < s.lo))) := by
 refine enQ func163 rfl ntmps163 rfl fun hS => ?_
 refine seq <| region ?_
 refine sbox hS rfl rfl fun b1 w hS => ?_
 refine vA <| nil <| cwQ <| seq <| region <| sv (fa219_0 rfl) <| sv (fa69_0 rfl) <| vL rfl isAgg3 hS rfl <| sv (fa219_0 rfl) <| sv (fa69_1 rfl) <| vL rfl isAgg3 hS rfl <| sv (yGtr rfl rfl) <| vA ?_
 refine nil <| cwQ <| wp_ret ?_
 exact rvQ hS
theorem c_whole {w0 : World} : CV Tryz.prog 159 #[] w0 (.agg (spanC ⟨-20000, 20000⟩).toArray) := by
 refine enQ func159 rfl ntmps159 rfl fun hS => ?_
 refine seq <| region ?_
 refine salloc hS zeroValue219 rfl fun b0 w hS => ?_
 refine nil <| cwQ <| seq <| region <| sv (yBuild zeroValue69 rfl pl69 (.cons rfl rfl (.cons rfl rfl .nil)) rfl) <| sv (yBuild zeroValue219 rfl pl219 (.cons rfl rfl .nil) rfl) ?_
 refine sS hS rfl sizeOf219 fun w hS => ?_
 refine nil <| cwQ <| wp_ret ?_
 exact retV (resV1 rfl (rc rfl isAgg219 sizeOf219 (hS.at _) rfl rfl)) hS.ext
theorem c_cut {b : Nat} {T : TypeId} {s x : Span} {w0 : World} (hb : w0.heap[b]? = some (.cells (spanC s).toArray T (0, 0))) : CE Tryz.prog 160 #[ptQ b, .agg (spanC x).toArray] w0 (fun v w' => v = .tuple #[] ∧ Put b (.cells (spanC (cutS s x)).toArray T (0, 0)) w0 w') := by
 refine enter func160 rfl ntmps160 rfl ?_
 have hS := StX.start1 (b := b) ⟨_, hb, rfl⟩
 refine seq <| region ?_
 refine sbox hS rfl rfl fun b3 w hS => ?_
 refine nil <| cwQ ?_
 refine region_two mixed [0, 0, 0, 0, 0, 0, 1, 0, 2, 0, 0, 0, 2, 0, 1, 0, 2, 0, 0, 0, 0] 18 22 (fun w => StX [b] w0 w [blk b3 (spanC x) 69, blk b (spanC s) T]) (fun w => StX [b] w0 w [blk b3 (spanC x) 69]) (by kernel_rfl) (fun c a a' w h => by obtain ⟨_, v, hv, _⟩ := h; cases hv) hS (fun _ h => h) (fun _ h => h.sub (.cons_cons _ (List.nil_sublist _))) ?_
 clear hS; intro w hS
 refine hv0 (fun w => (yMove rfl)) <| hv0 (fun w => (yMove rfl)) <| hv0 (fun w => (yMove rfl)) <| hv0 (fun w => (yNil rfl)) <| hv0 (fun w => (fa219_0 rfl)) <| hv0 (fun w => (fa69_0 rfl)) <| hv1 (fun w hS => yLdB rfl isAgg3 (hS.at _) rfl) <| hv0 (fun w => (fa69_0 rfl)) <| hv2 (fun w hS => yLdB rfl isAgg3 (hS.at _) rfl) <| hv0 (fun w => (yMax rfl rfl)) <| hv0 (fun w => (yMove rfl)) <| hv0 (fun w => (yNil rfl)) <| hv2 (fun w hS => fa219_0 rfl) ?_
 refine hv0 (fun w => (fa69_1 rfl)) <| hv1 (fun w hS => yLdB rfl isAgg3 (hS.at _) rfl) <| hv0 (fun w => (fa69_1 rfl)) <| hv2 (fun w hS => yLdB rfl isAgg3 (hS.at _) rfl) <| hv0 (fun w => (yMin rfl rfl)) <| hv0 (fun w => (yNil rfl)) <| hv0 (fun w => (fa219_0 rfl)) <| hv0 (fun w => (fa69_0 rfl)) <| hgnil ?_
 show wpR _ _ _ _ _ _ _ _ _ _ _ _
 refine r_step (i := 21) (is := []) (by kernel_rfl) ⟨?_, trivial⟩
 refine ⟨_, rfl, ?_⟩
 refine sS hS rfl sizeOf3 fun w hS => ?_
 refine nil ?_
 refine ⟨⟨fun h => absurd h (by decide), fun _ _ => hS.sub (.cons_cons _ (List.nil_sublist _))⟩, ?_⟩
 show wpR _ _ _ _ _ _ _ _ _ _ _ _
 refine r_step (i := 22) (is := []) (by kernel_rfl) ⟨?_, trivial⟩
 refine ⟨_, rfl, ?_⟩
 refine sv (yNil rfl) <| nil ?_
 refine ⟨⟨fun _ h => h, fun _ h => h⟩, ?_⟩
 show wpR _ _ _ _ _ _ _ _ _ _ _ _
 refine r_step (i := 23) (is := []) (by kernel_rfl) ⟨?_, trivial⟩
 refine ⟨_, rfl, ?_⟩
 refine sv (fa219_0 rfl) <| nil ?_
 refine ⟨⟨fun _ h => h, fun _ h => h⟩, ?_⟩
 show wpR _ _ _ _ _ _ _ _ _ _ _ _
 refine r_step (i := 24) (is := []) (by kernel_rfl) ⟨?_, trivial⟩
 refine ⟨_, rfl, ?_⟩
 refine sv (fa69_1 rfl) <| nil ?_
 refine ⟨⟨fun _ h => h, fun _ h => h⟩, ?_⟩
 show wpR _ _ _ _ _ _ _ _ _ _ _ _
 refine r_step (i := 25) (is := []) (by kernel_rfl) ⟨?_, trivial⟩
 refine ⟨_, rfl, ?_⟩
 refine sS hS rfl sizeOf3 fun w hS => ?_
 refine nil ?_
 refine ⟨⟨fun h => absurd h (by decide), fun h => absurd h (by decide)⟩, ?_⟩
 show wpR _ _ _ _ _ _ _ _ _ _ _ _
 refine r_end (by kernel_rfl) ?_
 show bodyPost _ _ _ .normal _ _
 refine retN (results_none rfl _ _ _) ?_
 exact ⟨rfl, hS.isPut⟩
theorem c_says {g : Gauge} {cs : List Value} {t now : Int} {w0 : World} (hg : RGauge w0 cs g) (hok : GaugeOk g) (ht : Bd t 0 200000) : CV Tryz.prog 153 #[.agg cs.toArray, .int .i64 t, .int .i64 now] w0 (.tuple #[.agg (spanC (saysG g t now).1).toArray, .int .i64 (saysG g t now).2]) := by
 obtain ⟨dv, rv, rfl, hnm, hge, hgr, hsd, hsr⟩ := id hg
 obtain ⟨a, cap, rfl, hcap, hmx, hel⟩ := id hsd
 obtain ⟨a2, cap2, rfl, hcap2, hmx2, hel2⟩ := id hsr
 have hrl := hok.rlen
 have hge := hok.err
 have hgr := hok.rate
 refine enQ func153 rfl ntmps153 rfl fun hS => ?_
 refine seq <| region ?_
 refine sbox hS rfl rfl fun b3 w hS => ?_
 refine salloc hS zeroValue69 rfl fun b6 w hS => ?_
 refine vA <| nil <| cwQ <| seq <| region ?_
 refine scV hS call159 .nil c_whole fun w hS => ?_
 refine salloc hS zeroValue219 rfl fun b8 w hS => ?_
 refine sS hS rfl sizeOf219 fun w hS => ?_
 refine vA <| nil <| cwQ <| seq <| seq <| region <| sv (fa201_4 rfl) <| vL rfl isAgg199 hS rfl <| sv (yLen rfl underlying199) <| vM <| nil <| cwQ <| block ?_
 refine loop (fun f w zz => ∃ (k : Nat) (e : Int), f 1 = .int .i64 t ∧ f 2 = .int .i64 now ∧ f 3 = ptQ b3 ∧ f 6 = ptQ b6 ∧ f 8 = ptQ b8 ∧ f 9 = .int .i64 e ∧ f 15 = .slice a2 g.readings.length cap2 ∧ f 16 = .int .i64 (g.readings.length : Int) ∧ f 17 = .int .i64 (k : Int) ∧ StX [] w0 w [blk b8 (spanC (cuts g t (g.readings.take k))) 219, blk b6 [.int .i64 0, .int .i64 0] 69, blk b3 [.string g.name, .int .i64 g.err, .int .i64 g.rate, .slice a g.datums.length cap, .slice a2 g.readings.length cap2] 201] ∧ (k ≤ g.readings.length) ∧ (e = if k = 0 then 4 else 0) ∧ (∀ x ∈ g.readings.take k, x.tick ≤ now) ∧ zz = g.readings.length - k) _ ⟨_, rfl, 0, 4, rfl, rfl, rfl, rfl, rfl, rfl, rfl, rfl, rfl, hS, (Nat.zero_le _), (rfl), (fun x hx => by cases hx), rfl⟩ ?_
 clear hS
 rintro f w _ ⟨k, e, h1, h2, h3, h6, h8, h9, h15, h16, h17, hS, hk, he, hle, rfl⟩
 refine seq <| region <| sv (yLss h17 h16) <| nil <| cwQ <| seq ?_
 refine cond rfl ?_ ?_ <;> intro c18 <;> simp only [BS, ne_eq] at c18
 ·
  refine skip <| cwQ <| seq <| block <| seq <| region ?_
  obtain ⟨r, hx, hd⟩ := drop_of (l := g.readings) (k := k) (by omega)
  obtain ⟨b, o, cs, ha, hlen, hcs, hR⟩ := hel2 (k) (by omega)
  obtain rfl : r = g.readings[k] := (List.getElem?_eq_some_iff.1 hx).2.symm
  generalize g.readings[k] = r at hx hd hR
  obtain ⟨rfl, hr1, hr2⟩ := hR
  refine sv (yIxQ h15 ha h17 runUnderlying199 sizeOf243) <| sv (yLdA rfl isAgg243 sizeOf243 (hcs.ext hS.ext) rfl) ?_
  refine salloc hS zeroValue243 rfl fun b11 w hS => ?_
  refine sS hS rfl sizeOf243 fun w hS => ?_
  refine nil <| cwQ <| seq <| seq <| region <| sv (fa243_0 rfl) <| vL rfl isAgg3 hS rfl <| sv (yMove h2) <| sv (yGtr rfl rfl) <| nil <| cwQ ?_
  refine cond rfl ?_ ?_ <;> intro c24 <;> simp only [BS, ne_eq] at c24
  ·
   have hK := known_stop hok.rasc hx hle c24
   refine exit <| cwQ <| seq <| block <| seq <| region <| sv (yMove h9) <| sv (yNeq rfl rfl) <| vA <| nil <| cwQ ?_
   refine cond rfl ?_ ?_ <;> intro c54 <;> simp only [BS, ne_eq] at c54
   ·
    refine seq <| region <| sv (yBuild zeroValue69 rfl pl69 .nil rfl) <| sv (yMove h9) ?_
    refine sS hS h6 sizeOf69 fun w hS => ?_
    refine vA <| nil <| cwQ ?_
    have hk0 : k = 0 := Decidable.byContradiction fun h => c54 (by rw [he, if_neg h])
    subst hk0
    have hfin := saysG_none (t := t) hK
    refine wp_ret (blockR (thenR ?_))
    exact retV (resV2 rfl (rc h6 isAgg69 sizeOf69 (hS.at _) (by rw [hfin]; rfl) rfl) (rt (eqI (by rw [hfin, he]; rfl)))) hS.ext
   refine seq <| region <| sv (yLdBA h8 isAgg219 sizeOf219 (hS.at _) rfl rfl) ?_
   refine scV hS call163 e1 c_empty fun w hS => ?_
   refine vA <| nil <| cwQ ?_
   refine cond rfl ?_ ?_ <;> intro c59 <;> simp only [BS, ne_eq] at c59
   ·
    refine seq <| region <| sv (yBuild zeroValue69 rfl pl69 .nil rfl) ?_
    refine sS hS h6 sizeOf69 fun w hS => ?_
    refine vA <| nil <| cwQ ?_
    have hk0 : k ≠ 0 := fun h => by rw [he, if_pos h] at c54; exact absurd c54 (by decide)
    have hfin := saysG_down (t := t) hK (fun h => hk0 ((take_nil_iff hk).1 h)) c59
    refine wp_ret (blockR (thenR ?_))
    exact retV (resV2 rfl (rc h6 isAgg69 sizeOf69 (hS.at _) (by rw [hfin]; rfl) rfl) (rt (eqI (by rw [hfin])))) hS.ext
   refine skip <| cwQ <| seq <| region <| sv (fa219_0 h8) <| sv (yLdBA rfl isAgg69 sizeOf69 (hS.at _) rfl rfl) ?_
   refine sS hS h6 sizeOf69 fun w hS => ?_
   refine vA <| nil <| cwQ ?_
   have hk0 : k ≠ 0 := fun h => by rw [he, if_pos h] at c54; exact absurd c54 (by decide)
   have hfin := saysG_ok (t := t) hK (fun h => hk0 ((take_nil_iff hk).1 h)) c59
   refine wp_ret ?_
   exact retV (resV2 rfl (rc h6 isAgg69 sizeOf69 (hS.at _) (by rw [hfin]; rfl) rfl) (rt (eqI (by rw [hfin])))) hS.ext
  have hro := hok.reads r (List.mem_of_getElem? hx)
  have hrt := hro.tick
  have hrv := hro.value
  have hfb := farR_bd hok ht hro
  have hmb : Bd (g.rate * max (t - r.tick) (r.tick - t)) 0 1000000000 := hfb
  refine skip <| cwQ <| seq <| region <| sv (fa201_2 h3) <| vL rfl isAgg3 hS rfl <| sv (yMove h1) <| sv (fa243_0 rfl) <| vL rfl isAgg3 hS rfl <| sv (ySubQ rfl rfl) <| sv (fa243_0 rfl) <| vL rfl isAgg3 hS rfl <| sv (yMove h1) ?_
  refine sv (ySubQ rfl rfl) <| sv (yMax rfl rfl) <| sv (yMul rfl rfl ⟨by omega, by omega⟩) <| vA <| nil <| cwQ <| seq <| region_tail mixed 15 (by kernel_rfl) hS ?_
  obtain ⟨d, hxd, hds, hdok⟩ := datum_at hok hro.tick.1
  have hdl := datI_lt hok hro.tick.1
  obtain ⟨b1, o1, cs1, ha1, hlen1, hcs1, hR1⟩ := hel _ hdl
  obtain rfl : d = g.datums[datI g.datums r.tick] := (List.getElem?_eq_some_iff.1 hxd).2.symm
  generalize g.datums[datI g.datums r.tick] = d at hR1 hds hdok
  obtain ⟨rfl, _⟩ := hR1
  have hdb := hdok.shift
  refine qv (fun w hS => fa243_1 rfl) <| qv (fun w hS => yLdB rfl isAgg3 (hS.at _) rfl) <| qv (fun w hS => fa201_1 h3) <| qv (fun w hS => yLdB rfl isAgg3 (hS.at _) rfl) <| qv (fun w hS => yMove rfl) <| qv (fun w hS => yAddQ rfl rfl) <| qv (fun w hS => fa201_3 h3) <| qv (fun w hS => yLdB rfl isAgg198 (hS.at _) rfl) <| qv (fun w hS => yLdBA h3 isAgg201 sizeOf201 (hS.at _) rfl rfl) <| qv (fun w hS => yLdBA rfl isAgg243 sizeOf243 (hS.at _) rfl rfl) <| qcall call162 e2 (fun w hS => c_datum (r := r) (hg.ext hS.ext) hok hro.tick.1) <| qv (fun w hS => yIxQ rfl ha1 rfl runUnderlying198 sizeOf241) <| qv (fun w hS => fa241_1 rfl) ?_
  refine qv (fun w hS => yLdA rfl isAgg69 sizeOf69 ((hcs1.mid (xs := spanC d.shift) 1 rfl).ext hS.ext) rfl) <| qcall call161 e3 (fun w hS => c_around (s := d.shift) ⟨by omega, by omega⟩ ⟨by omega, by omega⟩ ⟨⟨by omega, by omega⟩, ⟨by omega, by omega⟩⟩) ?_
  clear hS; refine qtl (fun w hS => ?_)
  refine scall call160 (.cons h8 e1) (c_cut (hS.at b8)) ?_; rintro _ w ⟨rfl, hput⟩; replace hS := hS.put hput; clear hput; rw [hds] at hS
  refine nil <| cwQ <| region <| vA <| nil <| cwQ <| region <| sv (yAddQ h17 rfl) <| vM <| nil ?_
  exact ⟨_, _, rfl, ⟨k + 1, 0, h1, h2, h3, h6, h8, rfl, h15, h16, rfl, (by rw [take_snoc hx, cuts_snoc]; exact hS.sub (.cons _ lrQ)), (by omega), (rfl), (fun x hx' => by rw [take_snoc hx] at hx'; rcases List.mem_append.1 hx' with h | h; exact hle x h; rw [List.mem_singleton.1 h]; omega), rfl⟩, by omega⟩
 have hK : known g.readings now = g.readings.take k := by rw [List.take_of_length_le (by omega)] at hle ⊢; exact known_all hle
 refine exit <| cwQ <| seq <| block <| seq <| region <| sv (yMove h9) <| sv (yNeq rfl rfl) <| vA <| nil <| cwQ ?_
 refine cond rfl ?_ ?_ <;> intro c54 <;> simp only [BS, ne_eq] at c54
 ·
  refine seq <| region <| sv (yBuild zeroValue69 rfl pl69 .nil rfl) <| sv (yMove h9) ?_
  refine sS hS h6 sizeOf69 fun w hS => ?_
  refine vA <| nil <| cwQ ?_
  have hk0 : k = 0 := Decidable.byContradiction fun h => c54 (by rw [he, if_neg h])
  subst hk0
  have hfin := saysG_none (t := t) hK
  refine wp_ret (blockR (thenR ?_))
  exact retV (resV2 rfl (rc h6 isAgg69 sizeOf69 (hS.at _) (by rw [hfin]; rfl) rfl) (rt (eqI (by rw [hfin, he]; rfl)))) hS.ext
 refine seq <| region <| sv (yLdBA h8 isAgg219 sizeOf219 (hS.at _) rfl rfl) ?_
 refine scV hS call163 e1 c_empty fun w hS => ?_
 refine vA <| nil <| cwQ ?_
 refine cond rfl ?_ ?_ <;> intro c59 <;> simp only [BS, ne_eq] at c59
 ·
  refine seq <| region <| sv (yBuild zeroValue69 rfl pl69 .nil rfl) ?_
  refine sS hS h6 sizeOf69 fun w hS => ?_
  refine vA <| nil <| cwQ ?_
  have hk0 : k ≠ 0 := fun h => by rw [he, if_pos h] at c54; exact absurd c54 (by decide)
  have hfin := saysG_down (t := t) hK (fun h => hk0 ((take_nil_iff hk).1 h)) c59
  refine wp_ret (blockR (thenR ?_))
  exact retV (resV2 rfl (rc h6 isAgg69 sizeOf69 (hS.at _) (by rw [hfin]; rfl) rfl) (rt (eqI (by rw [hfin])))) hS.ext
 refine skip <| cwQ <| seq <| region <| sv (fa219_0 h8) <| sv (yLdBA rfl isAgg69 sizeOf69 (hS.at _) rfl rfl) ?_
 refine sS hS h6 sizeOf69 fun w hS => ?_
 refine vA <| nil <| cwQ ?_
 have hk0 : k ≠ 0 := fun h => by rw [he, if_pos h] at c54; exact absurd c54 (by decide)
 have hfin := saysG_ok (t := t) hK (fun h => hk0 ((take_nil_iff hk).1 h)) c59
 refine wp_ret ?_
 exact retV (resV2 rfl (rc h6 isAgg69 sizeOf69 (hS.at _) (by rw [hfin]; rfl) rfl) (rt (eqI (by rw [hfin])))) hS.ext
theorem c_gauges {l : List Gauge} {v : Value} {t now : Int} {w0 : World} (hl : Sl w0 5 RGauge v l) (ht : I64 t) (hn : I64 now) : CV Tryz.prog 116 #[v, .int .i64 t, .int .i64 now] w0 (.int .i64 (gaugesE l t now)) := by
 obtain ⟨a, cap, rfl, hcap, hmx, hel⟩ := id hl
 refine enQ func116 rfl ntmps116 rfl fun hS => ?_
 refine seq <| region <| vA <| nil <| cwQ <| seq <| seq <| region <| vM <| sv (yLen rfl underlying25) <| sv (yGtr rfl rfl) <| nil <| cwQ ?_
 refine cond rfl ?_ ?_ <;> intro c15 <;> simp only [BS, ne_eq] at c15
 ·
  refine seq <| region <| vA <| nil <| cwQ ?_
  have hfin : gaugesE l t now = 3 := by unfold gaugesE; rw [if_pos c15]
  refine wp_ret (thenR ?_)
  exact retV (res1 rfl (eqI hfin)) hS.ext
 refine skip <| cwQ <| seq <| region ?_
 refine smkmap Value.string hS ?_; clear hS; intro b16 w hS
 refine vA <| nil <| cwQ <| seq <| seq <| region <| vM <| sv (yLen rfl underlying25) <| vM <| nil <| cwQ <| block <| loop (fun f w zz => ∃ (k : Nat), f 0 = .slice a l.length cap ∧ f 1 = .int .i64 t ∧ f 2 = .int .i64 now ∧ f 7 = .map (some b16) ∧ f 17 = .slice a l.length cap ∧ f 18 = .int .i64 (l.length : Int) ∧ f 19 = .int .i64 (k : Int) ∧ StX [] w0 w [mapI b16 Value.string (seenM (uniq (namesG (l.take k))))] ∧ (k ≤ l.length) ∧ (gErrs l = gErrs (l.drop k)) ∧ zz = l.length - k) _ ⟨_, rfl, 0, rfl, rfl, rfl, rfl, rfl, rfl, rfl, hS, (Nat.zero_le _), (rfl), rfl⟩ ?_
 clear hS
 rintro f w _ ⟨k, h0, h1, h2, h7, h17, h18, h19, hS, hk, hI, rfl⟩
 refine seq <| region <| sv (yLss h19 h18) <| nil <| cwQ <| seq ?_
 refine cond rfl ?_ ?_ <;> intro c20 <;> simp only [BS, ne_eq] at c20
 ·
  refine skip <| cwQ <| seq <| block <| seq <| region ?_
  obtain ⟨g, hx, hd⟩ := drop_of (l := l) (k := k) (by omega)
  obtain ⟨b, o, cs, ha, hlen, hcs, hR⟩ := hel (k) (by omega)
  obtain rfl : g = l[k] := (List.getElem?_eq_some_iff.1 hx).2.symm
  generalize l[k] = g at hx hd hR
  have hg := hR
  obtain ⟨dv, rv, hcse, hnm, hge, hgr, hsd, hsr⟩ := id hg
  subst hcse
  obtain ⟨a1, cap1, rfl, hcap1, hmx1, hel1⟩ := id hsd
  obtain ⟨a2, cap2, rfl, hcap2, hmx2, hel2⟩ := id hsr
  refine sv (yIxQ h17 ha h19 runUnderlying25 sizeOf201) <| sv (yLdA rfl isAgg201 sizeOf201 (hcs.ext hS.ext) rfl) ?_
  refine salloc hS zeroValue201 rfl fun b9 w hS => ?_
  refine sS hS rfl sizeOf201 fun w hS => ?_
  refine nil <| cwQ <| seq <| seq <| region <| sv (yLdBA rfl isAgg201 sizeOf201 (hS.at _) rfl rfl) ?_
  refine scV hS call87 e1 (c_CheckGauge (hg.ext hS.ext)) fun w hS => ?_
  refine vM <| sv (yExt rfl rfl) <| sv (yExt rfl rfl) <| sv (yExt rfl rfl) <| vA <| vA <| vA <| nil <| cwQ <| seq <| region <| vM <| sv (yNeq rfl rfl) ?_
  refine nil <| cwQ ?_
  refine cond rfl ?_ ?_ <;> intro c30 <;> simp only [BS, ne_eq] at c30
  ·
   refine seq <| region <| vM <| vA <| nil <| cwQ ?_
   have hfin : gaugesE l t now = (checkG g).2.2 := by unfold gaugesE; rw [if_neg c15, if_pos (by rw [gErrs_bad hd hI c30]; exact c30), gErrs_bad hd hI c30]
   refine wp_ret (thenR (blockR (thenR (thenR (blockR (thenR ?_))))))
   exact retV (res1 rfl (eqI hfin)) hS.ext
  refine skip <| cwQ <| region <| sv (yMove h7) <| sv (fa201_0 rfl) <| vL rfl isAgg9 hS rfl ?_
  refine smapset Value.string hS rfl rfl rfl runUnderlying197 (keyStr underlying9) ?_; clear hS; intro w hS
  refine nil <| cwQ <| region <| sv (yAddQ h19 rfl) <| vM <| nil ?_
  exact ⟨_, _, rfl, ⟨k + 1, h0, h1, h2, h7, h17, h18, rfl, (by rw [names_take hx, ← setM_uniq]; exact hS.sub (.cons _ lrQ)), (by omega), (gErrs_take hd hI c30), rfl⟩, by omega⟩
 obtain rfl : k = l.length := by omega
 rw [List.drop_length] at hI
 have hI0 : gErrs l = 0 := hI
 rw [List.take_length] at hS
 have hun := uniq_le (namesG l)
 rw [names_len] at hun
 refine exit <| cwQ <| seq <| seq <| region <| sv (yMove h7) <| sv (yLenM rfl underlying197 (hS.is b16)) <| sv (yMove h0) <| sv (yLen rfl underlying25) <| sv (yLss rfl rfl) <| nil <| cwQ ?_
 refine cond rfl (fun c40 => ?_) (fun c40 => ?_)
 ·
  simp only [BS, ne_eq, seenM, List.length_map] at c40
  refine seq <| region <| vA <| nil <| cwQ ?_
  have hfin : gaugesE l t now = 5 := by unfold gaugesE; rw [if_neg c15, if_neg (fun h => h hI0), if_pos (fun h => by have := hun.2.2 h; omega)]
  refine wp_ret (thenR ?_)
  exact retV (res1 rfl (eqI hfin)) hS.ext
 simp only [BS, ne_eq, seenM, List.length_map] at c40
 refine skip <| cwQ <| seq <| region <| sv (yMove h1) <| sv (yMove h2) ?_
 refine sbslice hS underlying30 sizeOf3 rfl zeroValue3 rfl (.cons rfl rfl (.cons rfl rfl .nil)) rfl fun b43 w hS => ?_
 refine scV hS call108 e1 (c_ticks (l := [t, now]) (ints_sl (l := [t, now]) (hS.at b43) (by simp; exact ⟨ht, hn⟩) (Nat.le_of_ble_eq_true rfl))) ?_; clear hS; intro w hS
 refine vA <| nil <| cwQ ?_
 have hfin : gaugesE l t now = ticksE [t, now] := by unfold gaugesE; rw [if_neg c15, if_neg (fun h => h hI0), if_neg (fun h => h (hun.2.1 (by omega)))]
 refine wp_ret ?_
 exact retV (res1 rfl (eqI hfin)) hS.ext
theorem c_some {a n : Int} {w0 : World} : CV Tryz.prog 63 #[.int .i64 a, .int .i64 n] w0 (.int .i64 (someE a n)) := by
 refine enQ func63 rfl ntmps63 rfl fun hS => ?_
 refine seq <| region <| vA <| nil <| cwQ <| seq <| block <| seq <| region <| vM ?_
 refine scV hS call100 e3 c_out fun w hS => ?_
 refine vA <| nil <| cwQ ?_
 refine cond rfl (fun c5 => ?_) (fun c5 => ?_)
 ·
  refine seq <| region <| vA <| nil <| cwQ ?_
  refine wp_ret (blockR (thenR ?_))
  exact retV (res1 rfl (eqI (by unfold someE; rw [if_pos c5]))) hS.ext
 refine seq <| region <| vM <| sv (yEql rfl rfl) <| vA <| nil <| cwQ ?_
 refine cond rfl ?_ ?_ <;> intro c8 <;> simp only [BS, ne_eq] at c8
 ·
  refine seq <| region <| vA <| nil <| cwQ ?_
  refine wp_ret (blockR (thenR ?_))
  exact retV (res1 rfl (eqI (by unfold someE; rw [if_neg (by rw [c5]; decide), if_pos c8]))) hS.ext
 refine seq <| region <| vM ?_
 refine scV hS call100 e3 c_out fun w hS => ?_
 refine vA <| nil <| cwQ ?_
 refine cond rfl (fun c11 => ?_) (fun c11 => ?_)
 ·
  refine seq <| region <| vA <| nil <| cwQ ?_
  refine wp_ret (blockR (thenR ?_))
  exact retV (res1 rfl (eqI (by unfold someE; rw [if_neg (by rw [c5]; decide), if_neg c8, if_pos c11]))) hS.ext
 have h5 := outB_false.1 c5
 have h11 := outB_false.1 c11
 refine skip <| cwQ <| seq <| region <| vM <| vM <| sv (yAddQ rfl rfl) <| sv (ySubQ rfl rfl) ?_
 refine sbslice hS underlying30 sizeOf3 rfl zeroValue3 rfl (.cons rfl rfl .nil) rfl fun b18 w hS => ?_
 refine scV hS call108 e1 (c_ticks (l := [a + n - 1]) (ints_sl (l := [a + n - 1]) (hS.at b18) (by simp; exact ⟨by omega, by omega⟩) (Nat.le_of_ble_eq_true rfl))) ?_; clear hS; intro w hS
 refine vA <| nil <| cwQ <| wp_ret ?_
 exact retV (res1 rfl (eqI (by unfold someE; rw [if_neg (by rw [c5]; decide), if_neg c8, if_neg (by rw [c11]; decide)]))) hS.ext
theorem c_parts0 {c : Const} {a : Option Addr} {cap : Nat} {tick : Int} {w0 : World} (hok : ConstOk c) : CE Tryz.prog 110 #[.agg [.string c.name, .slice a c.heights.length cap, .int .i64 c.off, .int .i64 c.step, .int .i64 c.den, .int .i64 c.slack].toArray, .int .i64 tick] w0 (fun v w' => ∃ bp bc pv, v = .func (.func 133) #[] [ptQ bp, ptQ bc].toArray ∧ St w0 w' [blk bp [.int .i64 pv] 3, blk bc [.string c.name, .slice a c.heights.length cap, .int .i64 c.off, .int .i64 c.step, .int .i64 c.den, .int .i64 c.slack] 214]) := by
 refine enQ func110 rfl ntmps110 rfl fun hS => ?_
 have hcy := cyc_pos hok
 refine seq <| region ?_
 refine sbox hS rfl rfl fun b2 w hS => ?_
 refine vA <| nil <| cwQ <| seq ?_
 refine region_any (C := (fun w => StX [] w0 w [blk b2 [.string c.name, .slice a c.heights.length cap, .int .i64 c.off, .int .i64 c.step, .int .i64 c.den, .int .i64 c.slack] 214])) mixed 8 11 (by kernel_rfl) (fun c a a' w h => by obtain ⟨_, v, hv, _⟩ := h; cases hv) hS (fun _ h => h) ?_
 clear hS; intro w hS
 refine hv (fun w hS => fa214_2 rfl) <| hv (fun w hS => yLdB rfl isAgg3 (hS.at _) rfl) <| hv (fun w hS => fa214_3 rfl) <| hv (fun w hS => yLdB rfl isAgg3 (hS.at _) rfl) <| hv (fun w hS => yMove rfl) <| hv (fun w hS => yMulW rfl rfl) <| hv (fun w hS => yAddW rfl rfl) <| hv (fun w hS => yLdBA rfl isAgg214 sizeOf214 (hS.at _) rfl rfl) <| hnil <| awQ ?_
 refine a_step (i := 8) (is := [10]) (by kernel_rfl) ⟨?_, ?_, trivial⟩
 ·
  refine ⟨_, rfl, ?_⟩
  refine scV hS call107 e1 (c_cycle ⟨by omega, by omega⟩) fun w hS => ?_
  refine nil ?_
  refine ⟨fun _ => hS.sub lrQ, ?_⟩
  refine awQ ?_
  refine a_step (i := 9) (is := [10]) (by kernel_rfl) ⟨?_, ?_, trivial⟩
  ·
   refine ⟨_, rfl, ?_⟩
   refine sv (yRem rfl rfl (by omega)) <| nil ?_
   refine ⟨fun _ => hS.sub lrQ, ?_⟩
   refine awQ <| a1Q 10 rfl ?_
   refine salloc hS zeroValue3 rfl fun b5 w hS => ?_
   refine nil ?_
   refine ⟨fun _ => hS.sub (.cons _ lrQ), ?_⟩
   refine awQ <| a1Q 11 rfl ?_
   refine sS hS rfl sizeOf3 fun w hS => ?_
   refine nil ?_
   refine ⟨fun h => absurd h (by decide), ?_⟩
   refine awQ <| a_end (by kernel_rfl) <| cwQ <| seq <| region <| sv (yFn e2) <| vA <| nil <| cwQ <| wp_ret <| retQ (res1 rfl rfl) ?_
   exact ⟨b5, b2, _, rfl, hS⟩
  refine ⟨_, rfl, ?_⟩
  refine salloc hS zeroValue3 rfl fun b5 w hS => ?_
  refine nil ?_
  refine ⟨fun _ => hS.sub (.cons _ lrQ), ?_⟩
  refine awQ <| a1Q 9 rfl <| sv (yRem rfl rfl (by omega)) <| nil ?_
  refine ⟨fun _ => hS.sub (.cons _ lrQ), ?_⟩
  refine awQ <| a1Q 11 rfl ?_
  refine sS hS rfl sizeOf3 fun w hS => ?_
  refine nil ?_
  refine ⟨fun h => absurd h (by decide), ?_⟩
  refine awQ <| a_end (by kernel_rfl) <| cwQ <| seq <| region <| sv (yFn e2) <| vA <| nil <| cwQ <| wp_ret <| retQ (res1 rfl rfl) ?_
  exact ⟨b5, b2, _, rfl, hS⟩
 refine ⟨_, rfl, ?_⟩
 refine salloc hS zeroValue3 rfl fun b5 w hS => ?_
 refine nil ?_
 refine ⟨fun _ => hS.sub (.cons _ lrQ), ?_⟩
 refine awQ <| a1Q 8 rfl ?_
 refine scV hS call107 e1 (c_cycle ⟨by omega, by omega⟩) fun w hS => ?_
 refine nil ?_
 refine ⟨fun _ => hS.sub (.cons _ lrQ), ?_⟩
 refine awQ <| a1Q 9 rfl <| sv (yRem rfl rfl (by omega)) <| nil ?_
 refine ⟨fun _ => hS.sub (.cons _ lrQ), ?_⟩
 refine awQ <| a1Q 11 rfl ?_
 refine sS hS rfl sizeOf3 fun w hS => ?_
 refine nil ?_
 refine ⟨fun h => absurd h (by decide), ?_⟩
 refine awQ <| a_end (by kernel_rfl) <| cwQ <| seq <| region <| sv (yFn e2) <| vA <| nil <| cwQ <| wp_ret <| retQ (res1 rfl rfl) ?_
 exact ⟨b5, b2, _, rfl, hS⟩
theorem c_levels0 {t : Table} {cv : Value} {from_ : Int} {w0 : World} (hsl : Sl w0 6 RConst cv t.consts) (hok : TableOk t) : CE Tryz.prog 64 #[.agg [.int .i64 t.mean, cv].toArray, .int .i64 from_, .int .i64 0] w0 (fun v w' => v = .slice none 0 0 ∧ Ext w0 w') := by
 obtain ⟨a, cap, rfl, hcap, hmx, hel⟩ := hsl
 have hmean := hok.mean
 have hlen12 := hok.len
 refine enQ func64 rfl ntmps64 rfl fun hS => ?_
 refine seq <| region ?_
 refine sbox hS rfl rfl fun b3 w hS => ?_
 refine vA <| nil <| cwQ <| seq <| region <| vM ?_
 refine smake (bytes := 16) (zs := [.int .i64 0, .int .i64 0]) (m := 0) hS rfl rfl underlying217 ti219 rfl rfl rfl rfl rfl (by omega) (by omega) ?_; clear hS; intro b17 w hS
 refine vA <| nil <| cwQ <| seq <| seq <| region <| vM <| sv (yLen rfl underlying217) <| vM <| nil <| cwQ <| block <| loop (fun f w zz => f 1 = .int .i64 from_ ∧ f 3 = ptQ b3 ∧ f 7 = .slice (some ⟨b17, 0, none⟩) 0 0 ∧ f 19 = .int .i64 0 ∧ f 20 = .int .i64 0 ∧ StX [] w0 w [blk b3 [.int .i64 t.mean, .slice a t.consts.length cap] 24] ∧ zz = 0) _ ⟨_, rfl, rfl, rfl, rfl, rfl, rfl, (hS.sub (.cons _ lrQ)), rfl⟩ ?_
 clear hS
 rintro f w _ ⟨h1, h3, h7, h19, h20, hS, rfl⟩
 refine seq <| region <| sv (yLss h20 h19) <| nil <| cwQ <| seq ?_
 refine cond rfl ?_ ?_ <;> intro c21 <;> simp only [BS, ne_eq] at c21
 ·
  omega
 refine exit <| cwQ <| seq <| seq <| region <| sv (fa24_1 h3) <| vL rfl isAgg22 hS rfl <| sv (yLen rfl underlying22) <| vM <| nil <| cwQ <| block <| loop (fun f w zz => ∃ (k : Nat), f 1 = .int .i64 from_ ∧ f 7 = .slice (some ⟨b17, 0, none⟩) 0 0 ∧ f 34 = .slice a t.consts.length cap ∧ f 35 = .int .i64 (t.consts.length : Int) ∧ f 36 = .int .i64 (k : Int) ∧ StX [] w0 w [] ∧ (k ≤ t.consts.length) ∧ zz = t.consts.length - k) _ ⟨_, rfl, 0, h1, h7, rfl, rfl, rfl, (hS.sub (List.nil_sublist _)), (Nat.zero_le _), rfl⟩ ?_
 clear hS
 rintro f w _ ⟨k, h1, h7, h34, h35, h36, hS, hk, rfl⟩
 refine seq <| region <| sv (yLss h36 h35) <| nil <| cwQ <| seq ?_
 refine cond rfl ?_ ?_ <;> intro c37 <;> simp only [BS, ne_eq] at c37
 ·
  refine skip <| cwQ <| seq <| block <| seq <| region ?_
  obtain ⟨c, hx, hd⟩ := drop_of (l := t.consts) (k := k) (by omega)
  obtain ⟨b, o, cs, ha, hlen, hcs, hR⟩ := hel (k) (by omega)
  obtain rfl : c = t.consts[k] := (List.getElem?_eq_some_iff.1 hx).2.symm
  generalize t.consts[k] = c at hx hd hR
  obtain ⟨hv, rfl, hn1, hsl1, _, _, _, _⟩ := hR
  have hcok : ConstOk c := hok.consts c (List.mem_of_getElem? hx)
  obtain ⟨a1, cap1, rfl, hq1, hq2, hq3⟩ := id hsl1
  refine sv (yIxQ h34 ha h36 runUnderlying22 sizeOf214) <| sv (yLdA rfl isAgg214 sizeOf214 (hcs.ext hS.ext) rfl) ?_
  refine salloc hS zeroValue214 rfl fun b10 w hS => ?_
  refine sS hS rfl sizeOf214 fun w hS => ?_
  refine nil <| cwQ <| seq <| region <| sv (yLdBA rfl isAgg214 sizeOf214 (hS.at _) rfl rfl) <| sv (yMove h1) ?_
  refine scall call110 e2 (c_parts0 hcok) ?_
  rintro _ w ⟨bp, bc, pv, rfl, hM⟩; replace hS := hS.call hM; clear hM
  refine vA <| nil <| cwQ <| seq <| region <| sv (yMove h7) <| sv (yLen rfl underlying217) <| vM <| nil <| cwQ <| block <| loop (fun f w zz => f 1 = .int .i64 from_ ∧ f 7 = .slice (some ⟨b17, 0, none⟩) 0 0 ∧ f 34 = .slice a t.consts.length cap ∧ f 35 = .int .i64 (t.consts.length : Int) ∧ f 36 = .int .i64 (k : Int) ∧ f 44 = .int .i64 0 ∧ f 45 = .int .i64 0 ∧ StX [] w0 w [] ∧ zz = 0) _ ⟨_, rfl, h1, h7, h34, h35, h36, rfl, rfl, (hS.sub (List.nil_sublist _)), rfl⟩ ?_
  clear hS
  rintro f w _ ⟨h1, h7, h34, h35, h36, h44, h45, hS, rfl⟩
  refine seq <| region <| sv (yLss h45 h44) <| nil <| cwQ <| seq ?_
  refine cond rfl ?_ ?_ <;> intro c46 <;> simp only [BS, ne_eq] at c46
  ·
   omega
  refine exit <| cwQ <| region <| sv (yAddQ h36 rfl) <| vM <| nil ?_
  exact ⟨_, _, rfl, ⟨k + 1, h1, h7, h34, h35, rfl, (hS.sub (List.nil_sublist _)), (by omega), rfl⟩, by omega⟩
 refine exit <| cwQ <| seq <| region <| vA <| nil <| cwQ <| seq <| seq <| region <| sv (yMove h7) <| sv (yLen rfl underlying217) <| vM ?_
 refine nil <| cwQ <| block <| loop (fun f w zz => f 13 = .slice none 0 0 ∧ f 57 = .int .i64 0 ∧ f 58 = .int .i64 0 ∧ StX [] w0 w [] ∧ zz = 0) _ ⟨_, rfl, rfl, rfl, rfl, (hS.sub (List.nil_sublist _)), rfl⟩ ?_
 clear hS
 rintro f w _ ⟨h13, h57, h58, hS, rfl⟩
 refine seq <| region <| sv (yLss h58 h57) <| nil <| cwQ <| seq ?_
 refine cond rfl ?_ ?_ <;> intro c59 <;> simp only [BS, ne_eq] at c59
 ·
  omega
 refine exit <| cwQ <| seq <| region <| sv (yMove h13) <| vA <| nil <| cwQ <| wp_ret <| retQ (res1 rfl rfl) ?_
 exact ⟨rfl, hS.ext⟩
theorem c_LevelsP {t : Table} {cs : List Value} {a n : Int} {w0 : World} (ht : RTable w0 cs t) (hn : n ≠ 0) : CE Tryz.prog 33 #[.agg cs.toArray, .int .i64 a, .int .i64 n] w0 (fun v w' => ∃ sv, v = .tuple #[sv, .int .i64 (levelsE t a n)] ∧ St w0 w' [rowI sv 69 2 (levelsF t a n).length ((levelsF t a n).flatMap spanC)]) := by
 obtain ⟨cv, rfl, hmean, hsl⟩ := id ht
 obtain ⟨aa, cap, rfl, hcap, hmx, hel⟩ := id hsl
 refine enQ func33 rfl ntmps33 rfl fun hS => ?_
 refine seq <| region ?_
 refine sbox hS rfl rfl ?_; clear hS; intro b3 w hS
 refine vA <| vA <| nil <| cwQ <| seq <| region <| sv (yLdBA rfl isAgg24 sizeOf24 (hS.at _) rfl rfl) ?_
 refine scV hS call62 e1 (c_Check (ht.ext hS.ext)) ?_; clear hS; intro w hS
 refine vM <| sv (yExt rfl rfl) <| sv (yExt rfl rfl) <| vA <| vA <| nil <| cwQ <| seq <| seq <| region <| vM <| sv (yEql rfl rfl) <| nil ?_
 refine cwQ ?_
 refine cond rfl ?_ ?_ <;> intro c16 <;> simp only [BS, ne_eq] at c16
 ·
  have hE := levelsE_good (a := a) (n := n) c16
  refine region <| vM <| vM ?_
  refine scV hS call63 e2 c_some ?_; clear hS; intro w hS
  refine vA <| nil <| cwQ <| seq <| seq <| region <| vM <| sv (yNeq rfl rfl) <| nil <| cwQ ?_
  refine cond rfl ?_ ?_ <;> intro c21 <;> simp only [BS, ne_eq] at c21
  ·
   refine seq <| region <| vM <| vA <| vA <| nil <| cwQ ?_
   refine wp_ret (thenR ?_)
   refine retQ (res2 rfl rfl rfl) ?_
   refine ⟨.slice none 0 0, by rw [hE]; rfl, ?_⟩
   rw [levelsF_bad (by rw [hE]; exact c21)]
   exact (hS.sub (List.nil_sublist _)).nilrow 69 2
  have hok := tableOk_of c16
  have hz := hE.trans c21
  obtain ⟨_, hz2, hz3⟩ := levelsE_zero hz
  obtain ⟨m, rfl⟩ := Int.eq_ofNat_of_zero_le hz2.1
  refine skip <| cwQ <| seq <| region <| sv (yLdBA rfl isAgg24 sizeOf24 (hS.at _) rfl rfl) <| vM <| vM ?_
  refine scall call64 e3 (c_levels (n := m) (hsl.ext RConst.stays hS.ext) hok (hz3 hn).1 (by omega)) ?_
  rintro v w hM; replace hS := hS.call1 hM; clear hM
  refine vA <| vA <| nil <| cwQ <| wp_ret <| retQ (res2 rfl rfl rfl) ?_
  refine ⟨v, by rw [hz]; rfl, ?_⟩
  rw [levelsF_good hz, show (lvlsL t a (m : Int).toNat).length = m from lvlsL_len t a m]
  exact hS.sub (.cons_cons _ (List.nil_sublist _))
 have hE := levelsE_bad (a := a) (n := n) c16
 refine skip <| cwQ <| seq <| seq <| region <| vM <| sv (yNeq rfl rfl) <| nil <| cwQ ?_
 refine cond rfl ?_ ?_ <;> intro c21 <;> simp only [BS, ne_eq] at c21
 ·
  refine seq <| region <| vM <| vA <| vA <| nil <| cwQ ?_
  refine wp_ret (thenR ?_)
  refine retQ (res2 rfl rfl rfl) ?_
  refine ⟨.slice none 0 0, by rw [hE]; rfl, ?_⟩
  rw [levelsF_bad (by rw [hE]; exact c21)]
  exact (hS.sub (List.nil_sublist _)).nilrow 69 2
 exact absurd c21 c16
theorem c_Levels0 {t : Table} {cs : List Value} {a n : Int} {w0 : World} (ht : RTable w0 cs t) : CE Tryz.prog 33 #[.agg cs.toArray, .int .i64 a, .int .i64 0] w0 (fun v w' => ∃ sv, v = .tuple #[sv, .int .i64 (levelsE t a 0)] ∧ St w0 w' [rowI sv 69 2 (levelsF t a 0).length ((levelsF t a 0).flatMap spanC)]) := by
 obtain ⟨cv, rfl, hmean, hsl⟩ := id ht
 obtain ⟨aa, cap, rfl, hcap, hmx, hel⟩ := id hsl
 refine enQ func33 rfl ntmps33 rfl fun hS => ?_
 refine seq <| region ?_
 refine sbox hS rfl rfl fun b3 w hS => ?_
 refine vA <| vA <| nil <| cwQ <| seq <| region <| sv (yLdBA rfl isAgg24 sizeOf24 (hS.at _) rfl rfl) ?_
 refine scV hS call62 e1 (c_Check (ht.ext hS.ext)) fun w hS => ?_
 refine vM <| sv (yExt rfl rfl) <| sv (yExt rfl rfl) <| vA <| vA <| nil <| cwQ <| seq <| seq <| region <| vM <| sv (yEql rfl rfl) <| nil ?_
 refine cwQ ?_
 refine cond rfl ?_ ?_ <;> intro c16 <;> simp only [BS, ne_eq] at c16
 ·
  have hE := levelsE_good (a := a) (n := 0) c16
  refine region <| vM <| vM ?_
  refine scV hS call63 e2 c_some fun w hS => ?_
  refine vA <| nil <| cwQ <| seq <| seq <| region <| vM <| sv (yNeq rfl rfl) <| nil <| cwQ ?_
  refine cond rfl ?_ ?_ <;> intro c21 <;> simp only [BS, ne_eq] at c21
  ·
   refine seq <| region <| vM <| vA <| vA <| nil <| cwQ ?_
   refine wp_ret (thenR ?_)
   refine retQ (res2 rfl rfl rfl) ?_
   refine ⟨.slice none 0 0, by rw [hE]; rfl, ?_⟩
   rw [levelsF_bad (by rw [hE]; exact c21)]
   exact (hS.sub (List.nil_sublist _)).nilrow 69 2
  have hok := tableOk_of c16
  have hz := hE.trans c21
  obtain ⟨_, hz2, hz3⟩ := levelsE_zero hz
  refine skip <| cwQ <| seq <| region <| sv (yLdBA rfl isAgg24 sizeOf24 (hS.at _) rfl rfl) <| vM <| vM ?_
  refine scV hS call64 e3 (c_levels0 (hsl.ext RConst.stays hS.ext) hok) fun w hS => ?_
  refine vA <| vA <| nil <| cwQ <| wp_ret <| retQ (res2 rfl rfl rfl) ?_
  refine ⟨.slice none 0 0, by rw [hz]; rfl, ?_⟩
  rw [levelsF_good hz]
  exact (hS.sub (List.nil_sublist _)).nilrow 69 2
 have hE := levelsE_bad (a := a) (n := 0) c16
 refine skip <| cwQ <| seq <| seq <| region <| vM <| sv (yNeq rfl rfl) <| nil <| cwQ ?_
 refine cond rfl ?_ ?_ <;> intro c21 <;> simp only [BS, ne_eq] at c21
 ·
  refine seq <| region <| vM <| vA <| vA <| nil <| cwQ ?_
  refine wp_ret (thenR ?_)
  refine retQ (res2 rfl rfl rfl) ?_
  refine ⟨.slice none 0 0, by rw [hE]; rfl, ?_⟩
  rw [levelsF_bad (by rw [hE]; exact c21)]
  exact (hS.sub (List.nil_sublist _)).nilrow 69 2
 exact absurd c21 c16
theorem c_Levels {t : Table} {cs : List Value} {a n : Int} {w0 : World} (ht : RTable w0 cs t) : CE Tryz.prog 33 #[.agg cs.toArray, .int .i64 a, .int .i64 n] w0 (fun v w' => ∃ sv, v = .tuple #[sv, .int .i64 (levelsE t a n)] ∧ St w0 w' [rowI sv 69 2 (levelsF t a n).length ((levelsF t a n).flatMap spanC)]) := by
 by_cases hn : n = 0
 ·
  subst hn; exact c_Levels0 (n := 0) ht
 exact c_LevelsP ht hn
theorem c_speakers {a : Option Addr} {len cap : Nat} {tick now : Int} {w0 : World} : CE Tryz.prog 140 #[.slice a len cap, .int .i64 tick, .int .i64 now] w0 (fun v w' => ∃ p1 p2 p3, v = .func (.func 152) #[] [ptQ p1, ptQ p2, ptQ p3].toArray ∧ St w0 w' [blk p3 [.int .i64 now] 3, blk p2 [.int .i64 tick] 3, blk p1 [.slice a len cap] 25]) := by
 refine enQ func140 rfl ntmps140 rfl fun hS => ?_
 refine seq <| region ?_
 refine sbox hS rfl rfl fun b3 w hS => ?_
 refine sbox hS rfl rfl fun b4 w hS => ?_
 refine sbox hS rfl rfl fun b5 w hS => ?_
 refine vA <| nil <| cwQ <| seq <| region <| sv (yFn e3) <| vA <| nil <| cwQ <| wp_ret <| retQ (res1 rfl rfl) ?_
 exact ⟨b3, b4, b5, rfl, hS⟩
theorem it_speakers {l : List Gauge} {a : Option Addr} {cap p1 p2 p3 : Nat} {tick now : Int} {w0 : World} (hsl : Sl w0 5 RGauge (.slice a l.length cap) l) (hok : ∀ g ∈ l, GaugeOk g) (ht : Bd tick 0 200000) : ItC Tryz.prog 152 [ptQ p1, ptQ p2, ptQ p3] w0 [blk p3 [.int .i64 now] 3, blk p2 [.int .i64 tick] 3, blk p1 [.slice a l.length cap] 25] spC (spk tick now l) := by
 obtain ⟨a', cap', hv, hcap, hmx, hel⟩ := hsl
 obtain ⟨rfl, rfl⟩ := slice_inj hv.symm
 intro yl Cb w L hY h0 hS
 replace hS : StX [] w0 w (blk p3 [.int .i64 now] 3 :: blk p2 [.int .i64 tick] 3 :: blk p1 [.slice a l.length cap] 25 :: L) := hS
 refine enterX func152 rfl ntmps152 rfl ?_
 skip
 refine seqX <| regionX rfl <| vL rfl isAgg25 hS rfl <| sv (yLen rfl underlying25) <| vM <| nil <| cxQ <| blockX <| loopX (fun f w zz => ∃ (k : Nat) (L : List Bx.Item), f 0 = .func (.yield yl) #[] #[] ∧ f 2 = ptQ p2 ∧ f 3 = ptQ p3 ∧ f 9 = .slice a l.length cap ∧ f 10 = .int .i64 (l.length : Int) ∧ f 11 = .int .i64 (k : Int) ∧ StX [] w0 w (blk p3 [.int .i64 now] 3 :: blk p2 [.int .i64 tick] 3 :: blk p1 [.slice a l.length cap] 25 :: L) ∧ (k ≤ l.length) ∧ (Cb true (spk tick now (l.take k)) L) ∧ zz = l.length - k) _ ⟨_, rfl, 0, L, rfl, rfl, rfl, rfl, rfl, rfl, hS, (Nat.zero_le _), (h0), rfl⟩ ?_
 clear hS
 rintro f w _ ⟨k, L, h0, h2, h3, h9, h10, h11, hS, hk, hcb, rfl⟩
 refine seqX <| regionX rfl <| sv (yLss h11 h10) <| nil <| cxQ <| seqX ?_
 refine condX rfl (fun c12 => ?_) (fun c12 => ?_)
 ·
  simp only [BS, ne_eq] at c12
  refine skipX <| cxQ <| seqX <| blockX <| seqX <| regionX rfl ?_
  obtain ⟨u, hx, hd⟩ := drop_of (l := l) (k := k) (by omega)
  obtain ⟨b, o, cs, ha, hlen, hcs, hR⟩ := hel (k) (by omega)
  obtain rfl : u = l[k] := (List.getElem?_eq_some_iff.1 hx).2.symm
  generalize l[k] = u at hx hd hR
  have hg := hR
  obtain ⟨dv, rv, rfl, -, -, -, hsd, hsr⟩ := id hg
  obtain ⟨ad, cad, rfl, -⟩ := hsd
  obtain ⟨ar, car, rfl, -⟩ := hsr
  refine sv (yMove h11) <| sv (yIxQ h9 ha h11 runUnderlying25 sizeOf201) <| sv (yLdA rfl isAgg201 sizeOf201 (hcs.ext hS.ext) hlen) ?_
  refine salloc hS zeroValue201 rfl fun b6 w hS => ?_
  refine vA ?_
  refine sS hS rfl sizeOf201 fun w hS => ?_
  refine nil <| cxQ <| seqX <| regionX rfl <| sv (yLdBA rfl isAgg201 sizeOf201 (hS.at _) rfl rfl) <| sv (yLdB h2 isAgg3 (hS.at _) rfl) <| sv (yLdB h3 isAgg3 (hS.at _) rfl) ?_
  refine scV hS call153 e3 (c_says (hg.ext hS.ext) (hok u (List.mem_of_getElem? hx)) ht) fun w hS => ?_
  refine vM <| sv (yExt rfl rfl) <| sv (yExt rfl rfl) ?_
  refine salloc hS zeroValue69 rfl fun b7 w hS => ?_
  refine sS hS rfl sizeOf69 fun w hS => ?_
  refine vA <| nil <| cxQ <| seqX <| regionL <| preX 6 rfl <| vM <| sv (yEql rfl rfl) <| vM ?_
  refine sg rfl rfl rfl (fun g => (yMove h0)) (fun v26 g26 => ?_)
  refine sg rfl rfl rfl (fun g => (yMove rfl)) (fun v27 g27 => ?_)
  refine sg rfl rfl rfl (fun g => (yLdBA rfl isAgg69 sizeOf69 (hS.at _) rfl rfl)) (fun v28 g28 => ?_)
  refine nil ?_
  show wpListIn _ _ _ _ _ _ _ _
  refine yieldG rfl rfl rfl (fun hne => ?_) (fun g => ⟨(g26.1 g), (.cons (g27.1 g) (.cons (g28.1 g) .nil)), (hY _ (((k : Int), (saysG u tick now).1)) w L [blk b7 (spanC (saysG u tick now).1) 69, blk b6 [.string u.name, .int .i64 u.err, .int .i64 u.rate, .slice ad u.datums.length cad, .slice ar u.readings.length car] 201, blk p3 [.int .i64 now] 3, blk p2 [.int .i64 tick] 3, blk p1 [.slice a l.length cap] 25] (spk_pre hx (of_decide_eq_true g)) hcb hS), ?_⟩)
  ·
   refine endX rfl ?_
   refine sg rfl rfl rfl (fun g => (yNot (show _ = Value.bool true from absurd (by assumption) hne))) (fun v30 g30 => ?_)
   refine sv (yAnd rfl (fun hB => (g30.1 hB)) rfl) <| nil <| cxQ ?_
   refine condX rfl (fun c31 => ?_) (fun c31 => ?_)
   ·
    skip
    simp at c31
   skip
   have hE : ¬ (saysG u tick now).2 = 0 := fun h => hne (decide_eq_true h)
   refine skipX <| cxQ <| regionX rfl <| sv (yAddQ h11 rfl) <| vM <| nil ?_
   exact ⟨_, _, rfl, ⟨k + 1, L, h0, h2, h3, h9, h10, rfl, (hS.sub (.cons _ (.cons _ lrQ))), (by omega), (by rw [spk_take hx, if_neg hE, List.append_nil]; exact hcb), rfl⟩, by omega⟩
  clear hS hcb; rintro _ w ⟨b, L, rfl, hcb, hS⟩
  have hE : (saysG u tick now).2 = 0 := of_decide_eq_true g
  refine endX rfl ?_
  refine sg rfl rfl rfl (fun g => (yNot rfl)) (fun v30 g30 => ?_)
  refine sv (yAnd rfl (fun hB => (g30.1 hB)) rfl) <| nil <| cxQ ?_
  refine condX rfl (fun c31 => ?_) (fun c31 => ?_)
  ·
   skip
   obtain rfl : b = false := by cases b; rfl; simp at c31
   refine wpIn_ret (blockR (thenR (thenR (blockR ?_))))
   refine leafX (results_none rfl _ _ _) ?_
   exact ⟨L, hS.sub (List.sublist_append_right _ _), .inr ⟨_, hcb⟩⟩
  skip
  obtain rfl : b = true := by cases b; simp [hE] at c31; rfl
  replace hS : StX [] w0 w (blk b7 (spanC (saysG u tick now).1) 69 :: blk b6 [.string u.name, .int .i64 u.err, .int .i64 u.rate, .slice ad u.datums.length cad, .slice ar u.readings.length car] 201 :: blk p3 [.int .i64 now] 3 :: blk p2 [.int .i64 tick] 3 :: blk p1 [.slice a l.length cap] 25 :: L) := hS
  refine skipX <| cxQ <| regionX rfl <| sv (yAddQ h11 rfl) <| vM <| nil ?_
  exact ⟨_, _, rfl, ⟨k + 1, L, h0, h2, h3, h9, h10, rfl, (hS.sub (.cons _ (.cons _ lrQ))), (by omega), (by rw [spk_take hx, if_pos hE]; exact hcb), rfl⟩, by omega⟩
 simp only [BS, ne_eq] at c12
 refine exitX ?_
 show bodyPostM (FX none) 0 _ _ _ .normal _ _
 refine leafXN (results_none rfl _ _ _) ?_
 obtain rfl : k = l.length := by omega
 rw [List.take_length] at hcb
 exact ⟨L, hS.sub (.cons _ (.cons _ (.cons _ lrQ))), .inl hcb⟩
theorem cW_isNaN {a : Int} {w0 : World} : CE Tryz.prog 150 #[.int .i64 a] w0 (fun v w' => v = .bool false ∧ w' = w0) := by
 refine enter func150 rfl ntmps150 rfl ?_
 skip
 refine seq <| region <| vA <| nil <| cwQ <| seq <| region <| vM <| vM <| sv (yNeq rfl rfl) <| vA <| nil <| cwQ ?_
 refine wp_ret <| retQ (res1 rfl rfl) ?_
 exact ⟨eqB (by simp), rfl⟩
theorem cW_Compare {a b : Int} {w0 : World} : CE Tryz.prog 125 #[.int .i64 a, .int .i64 b] w0 (fun v w' => v = .int .i64 (cmpI a b) ∧ w' = w0) := by
 refine enter func125 rfl ntmps125 rfl ?_
 skip
 refine seq <| region <| vA <| nil <| cwQ <| seq <| region <| vM ?_
 refine scall call150 e1 cW_isNaN ?_
 rintro _ _ ⟨rfl, rfl⟩
 refine vA <| nil <| cwQ <| seq <| region <| vM ?_
 refine scall call150 e1 cW_isNaN ?_
 rintro _ _ ⟨rfl, rfl⟩
 refine vA <| nil <| cwQ <| seq <| seq <| region <| vM <| nil <| cwQ ?_
 refine cond rfl (fun c11 => ?_) (fun c11 => ?_)
 ·
  exact absurd c11 (by decide)
 refine skip <| cwQ <| seq <| seq <| region <| vM <| nil <| cwQ ?_
 refine cond rfl (fun c13 => ?_) (fun c13 => ?_)
 ·
  exact absurd c13 (by decide)
 refine skip <| cwQ <| seq <| seq <| region <| vM <| vM <| sv (yLss rfl rfl) <| nil <| cwQ ?_
 refine cond rfl ?_ ?_ <;> intro c16 <;> simp only [BS, ne_eq] at c16
 ·
  refine seq <| region <| vA <| nil <| cwQ ?_
  refine wp_ret (thenR ?_)
  refine retQ (res1 rfl rfl) ?_
  exact ⟨eqI (by unfold cmpI; rw [if_pos c16]), rfl⟩
 refine skip <| cwQ <| seq <| seq <| region <| vM <| vM <| sv (yGtr rfl rfl) <| nil <| cwQ ?_
 refine cond rfl ?_ ?_ <;> intro c19 <;> simp only [BS, ne_eq] at c19
 ·
  refine seq <| region <| vA <| nil <| cwQ ?_
  refine wp_ret (thenR ?_)
  refine retQ (res1 rfl rfl) ?_
  exact ⟨eqI (by unfold cmpI; rw [if_neg c16, if_pos c19]), rfl⟩
 refine skip <| cwQ <| seq <| region <| vA <| nil <| cwQ <| wp_ret <| retQ (res1 rfl rfl) ?_
 exact ⟨eqI (by unfold cmpI; rw [if_neg c16, if_neg c19]), rfl⟩
theorem cW_Or {l : List Int} {b : Nat} {T : TypeId} {w0 : World} (hb : w0.heap[b]? = some (.cells (l.map (Value.int .i64)).toArray T (0, 0))) (hl : l.length ≤ 1000) : CE Tryz.prog 143 #[.slice (some ⟨b, 0, none⟩) l.length l.length] w0 (fun v w' => v = .int .i64 (orF l) ∧ w' = w0) := by
 refine enter func143 rfl ntmps143 rfl ?_
 skip
 refine seq <| region <| vA <| nil <| cwQ <| seq <| region <| vA <| nil <| cwQ <| seq <| seq <| region ?_
 refine vM <| sv (yLen rfl underlying30) <| vM <| nil <| cwQ <| block <| loop (fun f w zz => ∃ (k : Nat), f 3 = .int .i64 0 ∧ f 6 = .slice (some ⟨b, 0, none⟩) l.length l.length ∧ f 7 = .int .i64 (l.length : Int) ∧ f 8 = .int .i64 (k : Int) ∧ (w = w0) ∧ (k ≤ l.length) ∧ (orF l = orF (l.drop k)) ∧ zz = l.length - k) _ ⟨_, rfl, 0, rfl, rfl, rfl, rfl, (rfl), (Nat.zero_le _), (rfl), rfl⟩ ?_
 rintro f w _ ⟨k, h3, h6, h7, h8, hw, hk, hI, rfl⟩
 refine seq <| region <| sv (yLss h8 h7) <| nil <| cwQ <| seq ?_
 refine cond rfl ?_ ?_ <;> intro c9 <;> simp only [BS, ne_eq] at c9
 ·
  subst hw
  obtain ⟨x, hx, hd⟩ := drop_of (l := l) (k := k) (by omega)
  refine skip <| cwQ <| seq <| block <| seq <| region <| sv (yIx0 h6 h8 runUnderlying30 sizeOf3 (by omega)) ?_
  refine sv (yLd rfl isAgg3 (blk_cells hb _ _ (show (l.map (Value.int .i64))[k]? = some (.int .i64 x) by rw [List.getElem?_map, hx]; rfl))) ?_
  refine vA <| nil <| cwQ <| seq <| region <| vM <| sv (yMove h3) <| sv (yNeq rfl rfl) <| nil <| cwQ ?_
  refine cond rfl ?_ ?_ <;> intro c14 <;> simp only [BS, ne_eq] at c14
  ·
   refine seq <| region <| vM <| vA <| nil <| cwQ ?_
   refine wp_ret (blockR (thenR (thenR (blockR (thenR ?_)))))
   refine retQ (res1 rfl rfl) ?_
   exact ⟨eqI (by rw [hI, hd, orF, if_neg c14]), rfl⟩
  refine skip <| cwQ <| region <| sv (yAddQ h8 rfl) <| vM <| nil ?_
  exact ⟨_, _, rfl, ⟨k + 1, h3, h6, h7, rfl, (rfl), (by omega), (by rw [hI, hd, orF, if_pos c14]), rfl⟩, by omega⟩
 subst hw
 refine exit <| cwQ <| seq <| region <| sv (yMove h3) <| vA <| nil <| cwQ ?_
 obtain rfl : k = l.length := by omega
 refine wp_ret <| retQ (res1 rfl rfl) ?_
 exact ⟨eqI (by rw [hI, List.drop_length]; rfl), rfl⟩
theorem c_pieces1 {x y : Int × Int} {w0 : World} : CE Tryz.prog 142 #[.agg (encE x).toArray, .agg (encE y).toArray] w0 (fun v w' => v = .int .i64 (cmpE x y) ∧ ∃ q os, w' = Sort.grow (w0.drewN q) os) := by
 refine enter func142 rfl ntmps142 rfl <| seq <| region <| sv (yBoxW (cs := encE x) rfl rfl) <| sv (yBoxW (cs := encE y) rfl rfl) <| vA <| nil <| cwQ ?_
 obtain ⟨w1, hw1⟩ : ∃ w1, w1 = w0.alloc (.cells (encE x).toArray 265 (0, 0)) := ⟨_, rfl⟩
 obtain ⟨w2, hw2⟩ : ∃ w2, w2 = w1.alloc (.cells (encE y).toArray 265 (0, 0)) := ⟨_, rfl⟩
 have hx : w2.heap[w0.heap.size]? = some (.cells (encE x).toArray 265 (0, 0)) := by rw [hw2]; exact (ext_alloc _ _).get (by rw [hw1]; exact heap_alloc_new _ _)
 have hy : w2.heap[w1.heap.size]? = some (.cells (encE y).toArray 265 (0, 0)) := by rw [hw2]; exact heap_alloc_new _ _
 subst hw1
 rw [show ((w0.alloc (.cells (encE x).toArray 265 (0, 0))).alloc (.cells (encE y).toArray 265 (0, 0))) = w2 from hw2.symm]
 refine seq <| region_tailC (fun w => ∃ q, w = w2.drewN q) mixed 10 (by kernel_rfl) ⟨1, rfl⟩ <| qvC (fun w _ => fa265_0 rfl) ?_
 refine qvC (fun w hC => yLdB rfl isAgg3 (by obtain ⟨q, rfl⟩ := hC; exact hx) rfl) ?_
 refine qvC (fun w _ => fa265_0 rfl) ?_
 refine qvC (fun w hC => yLdB rfl isAgg3 (by obtain ⟨q, rfl⟩ := hC; exact hy) rfl) ?_
 refine qcallC call125 e2 (fun w hC => cW_Compare.mono (by rintro _ _ ⟨rfl, rfl⟩; exact ⟨rfl, hC⟩)) ?_
 refine qvC (fun w _ => fa265_1 rfl) ?_
 refine qvC (fun w hC => yLdB rfl isAgg3 (by obtain ⟨q, rfl⟩ := hC; exact hx) rfl) ?_
 refine qvC (fun w _ => fa265_1 rfl) ?_
 refine qvC (fun w hC => yLdB rfl isAgg3 (by obtain ⟨q, rfl⟩ := hC; exact hy) rfl) ?_
 refine qcallC call125 e2 (fun w hC => cW_Compare.mono (by rintro _ _ ⟨rfl, rfl⟩; exact ⟨rfl, hC⟩)) ?_
 refine qtlC ?_
 rintro w ⟨q, rfl⟩
 refine sv (yBSW underlying30 sizeOf3 rfl zeroValue3 rfl (.cons rfl rfl (.cons rfl rfl .nil)) rfl) ?_
 refine scall call143 e1 (cW_Or (l := [cmpI x.1 y.1, cmpI x.2 y.2]) (heap_alloc_new _ _) (Nat.le_of_ble_eq_true rfl)) ?_
 rintro _ _ ⟨rfl, rfl⟩
 refine vA <| nil <| cwQ ?_
 refine wp_ret (retQ (res1 rfl rfl) ?_)
 refine ⟨rfl, q, #[.cells (encE x).toArray 265 (0, 0), .cells (encE y).toArray 265 (0, 0), .cells ([cmpI x.1 y.1, cmpI x.2 y.2].map (Value.int .i64)).toArray 3 (0, 0)], ?_⟩
 rw [hw2]
 exact grow3 _ _ _ _ _
open Go.Shelf Go.RowKit Go.Lib Go.Sort
theorem lt_cmpE : ltOf cmpE = ltE := by funext x y; exact cmpE_lt x y
theorem c_SortEnds {v : Value} {n : Nat} {l : List (Int × Int)} {w0 : World} (hr : w0.ownsRow 0 265 2 v n (l.flatMap encE)) (hl : l.length = n) (hn : n ≤ 1000) :
  CE Tryz.prog 141 #[v, .func (.func 142) #[] #[]] w0 (fun u w' => u = .tuple #[] ∧ w0.grownBy w' v.ownBlock ∧ w'.ownsRow 0 265 2 v n ((sortE l).flatMap encE)) := by
 rcases id hr.2 with ⟨rfl, rfl⟩ | ⟨gb, cap, cur, rfl, -, hg, hnc, hcap, hcs, ht⟩
 ·
  have h := AnyF.slices_SortFunc_none (P := Tryz.prog) sortEnds none 0 (.func (.func 142) #[] #[]) w0
  refine Calls.mono h ?_
  rintro e w' ⟨rfl, rfl⟩
  obtain rfl : l = [] := List.eq_nil_of_length_eq_zero hl
  exact ⟨_, rfl, rfl, ⟨rfl, rfl, rfl, Nat.le_refl _, fun _ _ _ => rfl⟩, by rw [show sortE [] = [] from by simp [sortE]]; exact hr⟩
 have hcmp : CmpLays Tryz.prog 142 #[] encE 2 cmpE gb 0 l.toArray.size w0 := by
  intro m os dk _ x y
  rw [Array.append_empty]
  refine Calls.mono (c_pieces1 (x := x) (y := y)) ?_
  rintro e w' ⟨_, rfl, rfl, q, os', rfl⟩
  exact ⟨rfl, q, os', rfl⟩
 have hO : SWO (ltOf cmpE) := by rw [lt_cmpE]; exact ⟨ltE_irr, ltE_trans, ltE_ntrans⟩
 have h := AnyQ.slices_SortFunc_total sortEnds 2 isAgg265 sizeOf265 encE (fun _ => rfl) (fun x v hv => by simp [encE] at hv; rcases hv with rfl | rfl <;> rfl) cmpE hO 142 #[] gb 0 cap l.toArray w0 call142 hcmp (holds_row hg hcs hnc hl ht) (lt_of_heap hg) (by simp; omega) (by rw [lt_cmpE]; exact ltE_tot)
 have hs : l.toArray.size = n := by simp [hl]
 rw [hs] at h
 refine Calls.mono h ?_
 rintro e w' ⟨rfl, m, os, rfl⟩
 have hm : (l.toArray.toList.mergeSort fun x y => !(ltOf cmpE) y x) = sortE l := by rw [lt_cmpE]; rfl
 rw [hm]
 obtain ⟨h1, h2⟩ := sort_row (m := m) (os := os) (l := sortE l) hg hcs hnc hcap (by rw [sortE_len, hl])
 exact ⟨_, rfl, rfl, h2, h1⟩
theorem c_pieces {l : List Gauge} {a : Option Addr} {cap : Nat} {tick now : Int} {w0 : World} (hsl : Sl w0 5 RGauge (.slice a l.length cap) l) (hok : ∀ u ∈ l, GaugeOk u) (ht : Bd tick 0 200000) (hlen : l.length ≤ 100) : CE Tryz.prog 118 #[.slice a l.length cap, .int .i64 tick, .int .i64 now] w0 (fun v w' => St w0 w' [rowI v 231 3 (piecesF tick now l).length ((piecesF tick now l).flatMap pieceC)]) := by
 refine enterX func118 rfl ntmps118 rfl ?_
 have hS := St.start w0
 refine seqX <| regionX rfl <| vA <| nil <| cxQ <| seqX <| regionX rfl ?_
 refine salloc hS zeroValue259 rfl ?_; clear hS; intro b7 w hS
 refine nil <| cxQ <| seqX <| seqX <| regionX rfl ?_
 replace hS := hS.nilrow 265 2
 refine vM <| vM <| vM ?_
 refine scall call140 e3 c_speakers ?_
 rintro _ w ⟨p1, p2, p3, rfl, hM⟩; replace hS := hS.call hM; clear hM
 refine nil <| cxQ <| blockX ?_
 refine rangeX (R := [blk p3 [.int .i64 now] 3, blk p2 [.int .i64 tick] 3, blk p1 [.slice a l.length cap] 25]) (L0 := [rowI (.slice none 0 0) 265 2 0 [], blk b7 [.slice none 0 0] 259]) (ps := [20, 21]) rfl call152 hS (it_speakers hsl hok ht) (fun cc pre L => cc = none ∧ ∃ v, L = [rowI v 265 2 (endsF pre).length ((endsF pre).flatMap encE), blk b7 [v] 259]) ⟨rfl, _, rfl⟩ (fun _ _ => rfl) ?_ ?_ ?_
 ·
  clear hS
  intro yl pre x w L M hpre hcb hS
  obtain ⟨-, v, rfl⟩ := hcb
  obtain ⟨hx1, hx2, hx3, -, -⟩ := spkF_mem (hpre.subset (show x ∈ pre ++ [x] by simp))
  have hpl : pre.length ≤ 100 := by
   have h1 := hpre.length_le
   have h2 : (spk tick now l).length ≤ l.length := spkF_len tick now l 0
   simp only [List.length_append, List.length_singleton] at h1
   omega
  have hel := endsF_len pre
  try dsimp only [caQ, naQ] at hS
  refine regionX rfl ?_
  refine salloc hS zeroValue69 rfl ?_; clear hS; intro b9 w hS
  refine sS hS rfl sizeOf69 ?_; clear hS; intro w hS
  refine nil ?_
  refine ⟨_, [blk b9 (spanC x.2) 69, rowI v 265 2 (endsF pre).length ((endsF pre).flatMap encE), blk b7 [v] 259], rfl, hS, ?_⟩
  clear hS M; intro M w hS; try dsimp only [caQ, naQ] at hS
  refine blockX <| seqX <| regionX rfl <| sv (fa69_0 rfl) <| vL rfl isAgg3 hS rfl <| sv (fa69_1 rfl) <| vL rfl isAgg3 hS rfl <| sv (yAddQ rfl rfl) <| sv (yBuildA zeroValue263 rfl underlying263 sizeOf3 (.cons rfl rfl (.cons rfl rfl .nil)) rfl) <| vM <| nil <| cxQ <| blockX ?_
  refine loopX (fun f w zz => ∃ (k : Nat) (v : Value), f 7 = ptQ b7 ∧ f 27 = .agg [.int .i64 x.2.lo, .int .i64 (x.2.hi + 1)].toArray ∧ f 28 = .int .i64 (k : Int) ∧ StX [] w0 w (rowI v 265 2 (endsF pre ++ (endsOf x.2).take k).length ((endsF pre ++ (endsOf x.2).take k).flatMap encE) :: blk b7 [v] 259 :: M) ∧ (k ≤ 2) ∧ zz = 2 - k) _ ⟨_, rfl, 0, v, rfl, rfl, rfl, (by simp only [List.take_zero, List.append_nil]; exact hS.sub (.cons _ lrQ)), (by omega), rfl⟩ ?_
  clear hS
  rintro f w _ ⟨k, v, h7, h27, h28, hS, hk, rfl⟩
  refine seqX <| regionX rfl <| sv (yLss h28 rfl) <| nil <| cxQ <| seqX ?_
  refine condX rfl (fun c29 => ?_) (fun c29 => ?_)
  ·
   simp only [BS, ne_eq] at c29
   have hk2 : k = 0 ∨ k = 1 := by omega
   refine skipX <| cxQ <| seqX <| blockX <| seqX <| regionX rfl <| sv (yMove h28) ?_
   refine sv (yIxV h27 h28 underlying263 sizeOf3 isAgg3 (by omega) (show [Value.int .i64 x.2.lo, .int .i64 (x.2.hi + 1)][k]? = some (.int .i64 (if k = 0 then x.2.lo else x.2.hi + 1)) by rcases hk2 with rfl | rfl <;> rfl)) ?_
   refine vA <| vA <| nil <| cxQ <| regionX rfl <| sv (yLdB h7 isAgg259 (hS.at _) rfl) <| vM <| vM <| sv (yBuild zeroValue265 rfl pl265 (.cons rfl rfl (.cons rfl rfl .nil)) rfl) ?_
   refine sbslice hS underlying259 sizeOf265 rfl zeroValue265 rfl (.cons rfl rfl .nil) rfl ?_; clear hS; intro b36 w hS
   refine sapp (bytes := 16) (size := 2) (v := v) (m := 1) hS rfl rfl underlying259 ti265 rfl rfl rfl rfl (by decide) (blk_cells (hS.at _)) rfl rfl (by simp [endsOf]; omega) (by simp [endsOf]; omega) ?_; clear hS; intro v37 w hS
   obtain ⟨gr, capr, rfl, -⟩ := row_some (hS.row v37) (Nat.succ_pos _)
   refine sS hS h7 sizeOf259 ?_; clear hS; intro w hS
   refine nil <| cxQ <| regionX rfl <| sv (yAddQ h28 rfl) <| vM <| nil ?_
   exact ⟨_, _, rfl, ⟨k + 1, _, h7, h27, rfl, (by rw [show endsF pre ++ (endsOf x.2).take (k + 1) = (endsF pre ++ (endsOf x.2).take k) ++ [((if k = 0 then x.2.lo else x.2.hi + 1), (k : Int))] from by rcases hk2 with rfl | rfl <;> simp [endsOf]]; rw [List.flatMap_append, List.length_append]; exact hS.sub (.cons _ lrQ)), (by omega), rfl⟩, by omega⟩
  simp only [BS, ne_eq] at c29
  refine exitX ?_
  obtain rfl : k = 2 := by omega
  rw [show endsF pre ++ (endsOf x.2).take 2 = endsF (pre ++ [x]) from (endsF_snoc pre x).symm] at hS
  exact ⟨_, ⟨rfl, _, rfl⟩, hS⟩
 ·
  clear hS
  intro D w L hcb hS
  obtain ⟨-, v, rfl⟩ := hcb
  have hel := endsF_len (spk tick now l)
  have hsl2 : (spk tick now l).length ≤ l.length := spkF_len tick now l 0
  replace hS : StX [] w0 w [obj D (.deferred (some [])), rowI v 265 2 (endsF (spk tick now l)).length ((endsF (spk tick now l)).flatMap encE), blk b7 [v] 259] := hS
  refine cxQ <| seqX <| regionX rfl <| vL rfl isAgg259 hS rfl ?_
  refine scall call141 e2 (c_SortEnds (hS.row v) rfl (by omega)) ?_
  rintro _ w ⟨rfl, hG, hR⟩; replace hS := hS.app (v := v) (v' := v) hR hG (.inl rfl); clear hG hR
  obtain ⟨SS, hSS⟩ : ∃ SS, SS = sortE (endsF (spk tick now l)) := ⟨_, rfl⟩
  have hSl : (endsF (spk tick now l)).length = SS.length := by rw [hSS, sortE_len]
  have hSo : ∀ x ∈ SS, EndOk x := by rw [hSS]; exact sorted_ok
  rw [← hSS, hSl] at hS
  rw [hSl] at hel
  obtain ⟨ae, ce, rfl⟩ := row_shape (hS.row v)
  refine nil <| cxQ <| seqX <| regionX rfl <| vA <| nil <| cxQ <| seqX <| regionX rfl <| vA <| nil <| cxQ <| seqX ?_
  refine seqX <| regionX rfl <| vL rfl isAgg259 hS rfl <| sv (yLen rfl underlying259) <| vM <| nil <| cxQ <| blockX <| loopX (fun f w zz => ∃ (k : Nat) (m : Int) (ov : Value) (outs : List (Span × Int)), f 7 = ptQ b7 ∧ f 12 = ov ∧ f 13 = .int .i64 m ∧ f 41 = .slice ae SS.length ce ∧ f 42 = .int .i64 (SS.length : Int) ∧ f 43 = .int .i64 (k : Int) ∧ StX [] w0 w [rowI ov 231 3 outs.length (outs.flatMap pieceC), obj D (.deferred (some [])), rowI (.slice ae SS.length ce) 265 2 SS.length (SS.flatMap encE), blk b7 [.slice ae SS.length ce] 259] ∧ (k ≤ SS.length) ∧ (Bd m (-(k : Int)) k) ∧ (outs.length ≤ k) ∧ (piecesL SS 0 = outs ++ piecesL (SS.drop k) m) ∧ zz = SS.length - k) _ ⟨_, rfl, 0, 0, _, [], rfl, rfl, rfl, rfl, rfl, rfl, (hS.nilrow 231 3), (Nat.zero_le _), (⟨by decide, by decide⟩), (Nat.le_refl _), (rfl), rfl⟩ ?_
  clear hS
  rintro f w _ ⟨k, m, ov, outs, h7, h12, h13, h41, h42, h43, hS, hk, hm, hoL, hI, rfl⟩
  refine seqX <| regionX rfl <| sv (yLss h43 h42) <| nil <| cxQ <| seqX ?_
  refine condX rfl (fun c44 => ?_) (fun c44 => ?_)
  ·
   simp only [BS, ne_eq] at c44
   obtain ⟨x, hx, hd⟩ := drop_of (l := SS) (k := k) (by omega)
   obtain ⟨ge, hae, hce⟩ := row_get (hS.row (.slice ae SS.length ce)) (by omega)
   obtain ⟨hxb, hxk⟩ := hSo x (List.mem_of_getElem? hx)
   have hxk2 : 0 ≤ x.2 ∧ x.2 ≤ 1 := by omega
   obtain ⟨y, hyk⟩ : ∃ y, k + 1 < SS.length → SS[k + 1]? = some y := by
    by_cases hq : k + 1 < SS.length
    ·
     exact ⟨SS[k + 1], fun _ => List.getElem?_eq_getElem hq⟩
    exact ⟨(0, 0), fun h => absurd h hq⟩
   refine skipX <| cxQ <| seqX <| blockX <| seqX <| regionX rfl <| sv (yMove h43) <| sv (yIxQ h41 hae h43 runUnderlying259 sizeOf265) <| sv (yLdA rfl isAgg265 sizeOf265 (flat_cells encE_len (row_at (hS.row (.slice ae SS.length ce)) hae (by omega)) hx) rfl) ?_
   refine salloc hS zeroValue265 rfl ?_; clear hS; intro b15 w hS
   refine vA ?_
   refine sS hS rfl sizeOf265 ?_; clear hS; intro w hS
   refine nil <| cxQ <| seqX <| regionX rfl <| sv (yMove h13) <| sv (fa265_1 rfl) <| vL rfl isAgg3 hS rfl <| sv (yMul rfl rfl ⟨by omega, by omega⟩) <| sv (ySubQ rfl rfl) <| sv (yAddQ rfl rfl) <| vA <| nil <| cxQ ?_
   refine seqX <| region_drawX mixed (by kernel_rfl) rfl hS <| qv (fun w hS => yMove rfl) <| qv (fun w hS => yAddQ rfl rfl) <| qv (fun w hS => yLdB h7 isAgg259 (hS.at _) rfl) <| qv (fun w hS => yLen rfl underlying259) <| qv (fun w hS => yLss rfl rfl) <| qv (fun w hS => yMove rfl) ?_
   refine qg rfl rfl rfl (fun g w hS => (yLdB h7 isAgg259 (hS.at _) rfl)) (fun v60 g60 => ?_)
   refine qg rfl rfl rfl (fun g w hS => (yMove rfl)) (fun v61 g61 => ?_)
   refine qg rfl rfl rfl (fun g w hS => (yAdd (g61.1 g) rfl ⟨by omega, by omega⟩)) (fun v62 g62 => ?_)
   refine qg rfl rfl rfl (fun g w hS => (yIxa (g60.1 g) hae (g62.1 g) runUnderlying259 sizeOf265 (by omega) (by have := of_decide_eq_true g; omega))) (fun v63 g63 => ?_)
   refine qg rfl rfl rfl (fun g w hS => (fa265_0 (g63.1 g))) (fun v64 g64 => ?_)
   refine qg rfl rfl rfl (fun g w hS => (yLd (g64.1 g) isAgg3 (((flat_cells encE_len (row_at (hS.row (.slice ae SS.length ce)) hae (by omega)) (hyk (by have := of_decide_eq_true g; omega)))).one))) (fun v65 g65 => ?_)
   refine qg rfl rfl rfl (fun g w hS => (fa265_0 rfl)) (fun v66 g66 => ?_)
   refine qg rfl rfl rfl (fun g w hS => (yLdB (g66.1 g) isAgg3 (hS.at _) rfl)) (fun v67 g67 => ?_)
   refine qg rfl rfl rfl (fun g w hS => (yGtr (g65.1 g) (g67.1 g))) (fun v68 g68 => ?_)
   refine qv (fun w hS => yAnd rfl (fun hB => (g68.1 hB)) rfl) ?_
   clear hS; refine qnil (fun w hS => ?_)
   refine cxQ ?_
   refine condX rfl (fun c69 => ?_) (fun c69 => ?_)
   ·
    simp only [BS, ne_eq] at c69
    obtain ⟨hk1, hxy⟩ := c69
    have hy := hyk (by omega)
    have hyb := (hSo y (List.mem_of_getElem? hy)).1
    refine region_anyX (C := (fun w => StX [] w0 w [blk b15 (encE x) 265, obj D (.deferred (some [])), rowI (.slice ae SS.length ce) 265 2 SS.length (SS.flatMap encE), blk b7 [.slice ae SS.length ce] 259])) mixed 13 15 (by kernel_rfl) rfl hS (fun _ h => h.sub (.cons_cons _ (.cons _ lrQ))) ?_
    clear hS; intro w hS
    refine hv (fun w hS => yMove h12) <| hv (fun w hS => fa265_0 rfl) <| hv (fun w hS => yLdB rfl isAgg3 (hS.at _) rfl) <| hv (fun w hS => yLdB h7 isAgg259 (hS.at _) rfl) <| hv (fun w hS => yMove rfl) <| hv (fun w hS => yAddQ rfl rfl) <| hv (fun w hS => yIxQ rfl hae rfl runUnderlying259 sizeOf265) <| hv (fun w hS => fa265_0 rfl) <| hv (fun w hS => yLd rfl isAgg3 (((flat_cells encE_len (row_at (hS.row (.slice ae SS.length ce)) hae (by omega)) hy)).one)) <| hv (fun w hS => ySubQ rfl rfl) <| hv (fun w hS => yBuild zeroValue69 rfl pl69 (.cons rfl rfl (.cons rfl rfl .nil)) rfl) <| hv (fun w hS => yMove rfl) <| hv (fun w hS => yBuild zeroValue231 rfl pl231 (.cons rfl rfl (.cons rfl rfl .nil)) rfl) ?_
    refine hnil <| awQ <| a1Q 13 rfl ?_
    refine sbslice hS underlying228 sizeOf231 rfl zeroValue231 rfl (.cons rfl rfl .nil) rfl ?_; clear hS; intro b83 w hS
    refine nil ?_
    refine ⟨fun _ => hS.sub (List.Sublist.trans (.cons_cons _ (.cons _ lrQ)) (.cons _ lrQ)), ?_⟩
    refine awQ <| a1Q 14 rfl ?_
    refine sapp (bytes := 24) (size := 3) (v := ov) (m := 1) hS rfl rfl underlying228 ti231 rfl rfl rfl rfl (by decide) (blk_cells (hS.at _)) rfl rfl (by omega) (by omega) ?_; clear hS; intro v84 w hS
    refine nil ?_
    refine ⟨fun _ => hS.sub (List.Sublist.trans (.cons_cons _ (.cons _ lrQ)) (.cons _ lrQ)), ?_⟩
    refine awQ <| a1Q 15 rfl <| vA <| nil ?_
    refine ⟨fun h => absurd h (by decide), ?_⟩
    refine awQ <| a_end (by kernel_rfl) <| cxQ <| regionX rfl <| sv (yAddQ h43 rfl) <| vM <| nil ?_
    exact ⟨_, _, rfl, ⟨k + 1, m + (1 - 2 * x.2), _, outs ++ [((⟨x.1, y.1 - 1⟩ : Span), m + (1 - 2 * x.2))], h7, rfl, rfl, h41, h42, rfl, (by rw [List.flatMap_append, List.length_append]; exact hS.sub (.cons _ (.cons _ lrQ))), (by omega), (⟨by omega, by omega⟩), (by simp; omega), (by rw [hI, pieces_step hx, hy]; simp only [stepP]; rw [if_pos hxy, List.append_assoc]), rfl⟩, by omega⟩
   simp only [BS, ne_eq] at c69
   have hno : stepP x m SS[k + 1]? = [] := by
    cases hq : SS[k + 1]? with
    | none => rfl
    | some y2 =>
     have hk1 : k + 1 < SS.length := (List.getElem?_eq_some_iff.1 hq).1
     have hy2 := hyk hk1
     rw [hq] at hy2
     cases hy2
     simp only [stepP]
     rw [if_neg (by omega)]
   refine skipX <| cxQ <| regionX rfl <| sv (yAddQ h43 rfl) <| vM <| nil ?_
   exact ⟨_, _, rfl, ⟨k + 1, m + (1 - 2 * x.2), _, outs, h7, h12, rfl, h41, h42, rfl, (hS.sub (.cons _ lrQ)), (by omega), (⟨by omega, by omega⟩), (by omega), (by rw [hI, pieces_step hx, hno]; rfl), rfl⟩, by omega⟩
  simp only [BS, ne_eq] at c44
  obtain rfl : k = SS.length := by omega
  rw [List.drop_length] at hI
  have hfin : piecesF tick now l = outs := by unfold piecesF; rw [← hSS, hI]; simp [piecesL]
  refine exitX <| cxQ <| seqX <| regionX rfl <| sv (yMove h12) <| vA <| nil <| cxQ <| wpIn_ret ?_
  refine leafD hS (fun w hS => res1 rfl rfl) (fun w hS => ?_)
  show St w0 w [_]
  rw [hfin]
  exact hS.sub (.cons_cons _ (List.nil_sublist _))
 intro D w L c pre hcb hS; exact absurd hcb.1 (by simp)
theorem c_IndexFuncP {l : List (Span × Int)} {p : Span × Int → Bool} {v : Value} {g : Nat} {cl : List Value} {w0 : World} (hsl : Sl w0 3 (fun (_ : World) cs x => cs = pieceC x ∧ True) v l) (hcall : ∀ ys w, (callFunc g ys).run Tryz.prog w = .ok (.enter g ys) w) (hp : ∀ x w, x ∈ l → Ext w0 w → CV Tryz.prog g (.agg (pieceC x).toArray :: cl).toArray w (.bool (p x))) : CV Tryz.prog 139 #[v, .func (.func g) #[] cl.toArray] w0 (.int .i64 (idxF p l 0)) := by
 obtain ⟨a, cap, rfl, hcap, hmx, hel⟩ := hsl
 refine enQ func139 rfl ntmps139 rfl fun hS => ?_
 refine seq <| region <| vA <| nil <| cwQ <| seq <| seq <| region <| vM <| sv (yLen rfl underlying228) <| vM <| nil <| cwQ ?_
 refine block <| loop (fun f w zz => ∃ (k : Nat), f 0 = .slice a l.length cap ∧ f 1 = .func (.func g) #[] cl.toArray ∧ f 7 = .int .i64 (l.length : Int) ∧ f 8 = .int .i64 (k : Int) ∧ StX [] w0 w [] ∧ (k ≤ l.length) ∧ (idxF p l 0 = idxF p (l.drop k) k) ∧ zz = l.length - k) _ ⟨_, rfl, 0, rfl, rfl, rfl, rfl, hS, (Nat.zero_le _), (rfl), rfl⟩ ?_
 clear hS
 rintro f w _ ⟨k, h0, h1, h7, h8, hS, hk, hI, rfl⟩
 refine seq <| region <| sv (yLss h8 h7) <| nil <| cwQ <| seq ?_
 refine cond rfl ?_ ?_ <;> intro c9 <;> simp only [BS, ne_eq] at c9
 ·
  refine skip <| cwQ <| seq <| block <| seq <| region <| sv (yMove h8) <| vA <| nil <| cwQ <| seq <| region ?_
  obtain ⟨x, hx, hd⟩ := drop_of (l := l) (k := k) (by omega)
  obtain ⟨b, o, cs, ha, hlen, hcs, hR⟩ := hel k (by omega)
  obtain rfl : x = l[k] := (List.getElem?_eq_some_iff.1 hx).2.symm
  obtain ⟨rfl, -⟩ := hR
  refine sv (yMove h1) <| sv (yMove h0) <| vM <| sv (yIxQ rfl ha rfl runUnderlying228 sizeOf231) <| sv (yLdA rfl isAgg231 sizeOf231 (hcs.ext hS.ext) rfl) ?_
  refine scallf rfl hcall e1 (hp _ _ (List.getElem_mem _) hS.ext) ?_
  rintro _ w ⟨rfl, hE⟩; replace hS := hS.step hE; clear hE
  refine nil <| cwQ ?_
  refine cond rfl (fun c16 => ?_) (fun c16 => ?_)
  ·
   refine seq <| region <| vM <| vA <| nil <| cwQ ?_
   refine wp_ret (blockR (thenR (thenR (blockR (thenR ?_)))))
   exact retV (res1 rfl (by rw [hI, hd, idxF, if_pos c16]; rfl)) hS.ext
  refine skip <| cwQ <| region <| sv (yAddQ h8 rfl) <| vM <| nil ?_
  exact ⟨_, _, rfl, ⟨k + 1, h0, h1, h7, rfl, hS, (by omega), (by rw [hI, hd, idxF, if_neg (by simp [c16])]; rfl), rfl⟩, by omega⟩
 refine exit <| cwQ <| seq <| region <| vA <| nil <| cwQ ?_
 obtain rfl : k = l.length := by omega
 refine wp_ret ?_
 exact retV (res1 rfl (by rw [hI, List.drop_length]; rfl)) hS.ext
theorem c_DeleteFuncP {l : List (Span × Int)} {p : Span × Int → Bool} {a : Option Addr} {cap g : Nat} {cl : List Value} {w0 : World} (hr : w0.ownsRow 0 231 3 (.slice a l.length cap) l.length (l.flatMap pieceC)) (hcall : ∀ ys w, (callFunc g ys).run Tryz.prog w = .ok (.enter g ys) w) (hp : ∀ x w, x ∈ l → ExtX (Value.slice a l.length cap).ownBlock.toList w0 w → CV Tryz.prog g (.agg (pieceC x).toArray :: cl).toArray w (.bool (p x))) (hlen : l.length ≤ 1000) : CE Tryz.prog 117 #[.slice a l.length cap, .func (.func g) #[] cl.toArray] w0 (fun u w' => u = .slice a (l.filter fun x => !p x).length cap ∧ StX (Value.slice a l.length cap).ownBlock.toList w0 w' [rowI (.slice a (l.filter fun x => !p x).length cap) 231 3 (l.filter fun x => !p x).length ((l.filter fun x => !p x).flatMap pieceC)]) := by
 refine enter func117 rfl ntmps117 rfl ?_
 have hS := StX.startR hr
 refine seq <| region <| vA <| nil <| cwQ <| seq <| region <| vM <| vM ?_
 refine scV hS call139 e2 (c_IndexFuncP (row_sl flat3 (hS.row (.slice a l.length cap)) (fun _ _ => trivial)) hcall (fun x w hx e => hp x w hx (hS.extx.trans e))) fun w hS => ?_
 have hix := idxF_spec p l 0 (Int.le_refl 0)
 generalize idxF p l 0 = ix at hix ⊢
 refine vA <| nil <| cwQ <| seq <| seq <| region <| vM <| sv (yEql rfl rfl) <| nil <| cwQ ?_
 refine cond rfl ?_ ?_ <;> intro c12 <;> simp only [BS, ne_eq] at c12
 ·
  have hfl : (l.filter fun x => !p x) = l := by
   rcases hix with ⟨-, h⟩ | ⟨k, -, h, -⟩
   ·
    exact h
   omega
  refine seq <| region <| vM <| vA <| nil <| cwQ ?_
  refine wp_ret (thenR ?_)
  refine retQ (res1 rfl rfl) ?_
  rw [hfl]
  exact ⟨rfl, hS⟩
 obtain ⟨i0, hi0, hie, hi1, z, hz, hpz⟩ := hix.resolve_left (fun h => c12 h.1)
 obtain ⟨gb, rfl, -⟩ := row_get (hS.row (.slice a l.length cap)) (by omega)
 obtain rfl : ix = (i0 : Int) := by omega
 have hcap : l.length ≤ cap := by
  obtain ⟨g2, c2, e2, h2, -⟩ := row_some (hS.row (.slice (some ⟨gb, 0, none⟩) l.length cap)) (by omega)
  obtain ⟨-, rfl⟩ := slice_inj e2
  exact h2
 refine skip <| cwQ <| seq <| seq <| region <| vM <| sv (yAddQ rfl rfl) <| vA <| nil <| cwQ <| block ?_
 have htl : (l.take i0).length = i0 := by simp; omega
 refine loop (fun f w zz => ∃ (ks js : PL) (j : Nat), f 0 = .slice (some ⟨gb, 0, none⟩) l.length cap ∧ f 1 = .func (.func g) #[] cl.toArray ∧ f 5 = .int .i64 (ks.length : Int) ∧ f 6 = .int .i64 (j : Int) ∧ StX (Value.slice (some ⟨gb, 0, none⟩) l.length cap).ownBlock.toList w0 w ([rowI (.slice (some ⟨gb, 0, none⟩) l.length cap) 231 3 l.length ((ks ++ js ++ l.drop j).flatMap pieceC)]) ∧ (j ≤ l.length) ∧ (ks.length + js.length = j) ∧ (js ≠ []) ∧ ((l.filter fun x => !p x) = ks ++ (l.drop j).filter fun x => !p x) ∧ zz = l.length - j) _ ⟨_, rfl, l.take i0, [z], i0 + 1, rfl, rfl, (by rw [htl]; exact rfl), rfl, (by rw [cut_at hz]; exact hS), (by omega), (by rw [htl]; rfl), (by simp), (filter_at hz hi1 hpz), rfl⟩ ?_
 clear hS
 rintro f w _ ⟨ks, js, j, h0, h1, h5, h6, hS, hj, hl, hne, hI, rfl⟩
 refine seq <| seq <| region <| sv (yMove h6) <| sv (yMove h0) <| sv (yLen rfl underlying228) <| sv (yLss rfl rfl) <| nil <| cwQ ?_
 refine cond rfl ?_ ?_ <;> intro c19 <;> simp only [BS, ne_eq] at c19
 ·
  obtain ⟨x, hx, hd⟩ := drop_of (l := l) (k := j) (by omega)
  refine skip <| cwQ <| seq <| block <| seq <| region <| sv (yMove h0) <| sv (yMove h6) <| sv (yIx0 rfl rfl runUnderlying228 sizeOf231 (by omega)) <| sv (yLdA rfl isAgg231 sizeOf231 (flat_cells0 pieceC_len (row_at (hS.row (.slice (some ⟨gb, 0, none⟩) l.length cap)) rfl (by omega)) (mid_get hl hx)) rfl) ?_
  refine salloc hS zeroValue231 rfl fun b7 w hS => ?_
  refine sS hS rfl sizeOf231 fun w hS => ?_
  refine nil <| cwQ <| seq <| region <| sv (yMove h1) <| sv (yLdBA rfl isAgg231 sizeOf231 (hS.at _) rfl rfl) ?_
  refine scallf rfl hcall e1 (hp x _ (List.mem_of_getElem? hx) hS.extx) ?_
  rintro _ w ⟨rfl, hE⟩; replace hS := hS.step hE; clear hE
  refine sv (yNot rfl) <| nil <| cwQ ?_
  refine cond rfl (fun c29 => ?_) (fun c29 => ?_)
  ·
   simp only [Bool.not_eq_true', Bool.not_eq_false', Bool.not_eq_true, Bool.not_eq_false] at c29
   refine seq <| region <| sv (yMove h0) <| sv (yMove h5) <| sv (yLdBA rfl isAgg231 sizeOf231 (hS.at _) rfl rfl) ?_
   refine sv (yIx0 rfl rfl runUnderlying228 sizeOf231 (by have := List.length_pos_iff.2 hne; omega)) ?_
   refine srst (m := l.length) (cap := cap) (sz := 3) hS rfl rfl sizeOf231 rfl rfl (by have := List.length_pos_iff.2 hne; omega) rfl ?_; clear hS; intro w hS
   refine nil <| cwQ <| region <| sv (yMove h5) <| sv (yAddQ rfl rfl) <| vA <| nil <| cwQ <| region <| sv (yMove h6) <| sv (yAddQ rfl rfl) <| vA <| nil ?_
   exact ⟨_, _, rfl, ⟨ks ++ [x], js.tail ++ [x], j + 1, h0, h1, (by rw [List.length_append]; exact rfl), rfl, (by rw [gap_out hx hne]; exact hS.sub (.cons _ lrQ)), (by omega), (by simp; have := List.length_pos_iff.2 hne; omega), (by simp), (by rw [hI, hd, List.filter_cons_of_pos (by simpa using c29)]; simp), rfl⟩, by omega⟩
  simp only [Bool.not_eq_true', Bool.not_eq_false', Bool.not_eq_true, Bool.not_eq_false] at c29
  refine skip <| cwQ <| region <| sv (yMove h6) <| sv (yAddQ rfl rfl) <| vA <| nil ?_
  exact ⟨_, _, rfl, ⟨ks, js ++ [x], j + 1, h0, h1, h5, rfl, (by rw [gap_in hx]; exact hS.sub (.cons _ lrQ)), (by omega), (by simp; omega), (by simp), (by rw [hI, hd, List.filter_cons_of_neg (by simp [c29])]), rfl⟩, by omega⟩
 obtain rfl : j = l.length := by omega
 rw [List.drop_length] at hI
 have hfin : (l.filter fun x => !p x) = ks := by rw [hI]; simp
 refine exit <| cwQ <| seq <| region <| sv (yMove h0) <| sv (yMove h5) <| sv (yTail rfl rfl underlying228 sizeOf231 (by omega)) ?_
 refine sclear (i := ks.length) (m := l.length) hS rfl underlying228 zeroValue231 rfl (by decide) (by decide) (by omega) ?_; clear hS; intro w hS
 refine nil <| cwQ <| seq <| region <| sv (yMove h0) <| sv (yMove h5) <| sv (yHead ⟨_, rfl⟩ rfl rfl underlying228 sizeOf231 (by omega)) <| vA <| nil <| cwQ <| wp_ret <| retQ (res1 rfl rfl) ?_
 rw [hfin]
 rw [List.append_assoc, take_flat] at hS
 exact ⟨rfl, hS⟩
theorem c_Sound1 {x : Span × Int} {b b2 len cap : Nat} {a : Option Addr} {T T2 : TypeId} {wrong : Int} {w0 : World} (hb : w0.heap[b]? = some (.cells [.slice a len cap].toArray T (0, 0))) (h2 : w0.heap[b2]? = some (.cells [.int .i64 wrong].toArray T2 (0, 0))) (hI : I64 ((len : Int) - wrong)) : CV Tryz.prog 119 #[.agg (pieceC x).toArray, ptQ b, ptQ b2] w0 (.bool (decide (x.2 < (len : Int) - wrong))) := by
 refine enQ func119 rfl ntmps119 rfl fun hS => ?_
 refine seq <| region ?_
 refine sbox hS rfl rfl fun b3 w hS => ?_
 refine vA <| nil <| cwQ <| seq <| region <| sv (fa231_1 rfl) <| vL rfl isAgg3 hS rfl <| sv (yLdB rfl isAgg25 (hS.ext.get hb) rfl) <| sv (yLen rfl underlying25) <| sv (yLdB rfl isAgg3 (hS.ext.get h2) rfl) <| sv (ySub rfl rfl hI) <| sv (yLss rfl rfl) <| vA ?_
 refine nil <| cwQ <| wp_ret ?_
 exact rvQ hS
theorem c_Sound {l : List Gauge} {v : Value} {wrong t now : Int} {w0 : World} (hl : Sl w0 5 RGauge v l) (hw : I64 wrong) (ht : I64 t) (hn : I64 now) : CV Tryz.prog 80 #[v, .int .i64 wrong, .int .i64 t, .int .i64 now] w0 (.tuple #[.agg (spanC (soundF l wrong t now).1).toArray, .int .i64 (soundF l wrong t now).2]) := by
 obtain ⟨a, cap, rfl, hcap, hmx, hel⟩ := id hl
 refine enQ func80 rfl ntmps80 rfl fun hS => ?_
 refine seq <| region ?_
 refine sbox hS rfl rfl fun b4 w hS => ?_
 refine sbox hS rfl rfl fun b5 w hS => ?_
 refine salloc hS zeroValue69 rfl fun b8 w hS => ?_
 refine vA <| nil <| cwQ <| seq <| region <| vL rfl isAgg25 hS rfl <| vM <| vM ?_
 refine scV hS call116 e3 (c_gauges (hl.ext RGauge.stays hS.ext) ht hn) fun w hS => ?_
 refine vA <| nil <| cwQ <| seq <| block <| seq <| region <| vM <| sv (yNeq rfl rfl) <| vA <| nil <| cwQ ?_
 refine cond rfl (fun c16 => ?_) (fun c16 => ?_)
 ·
  have c16 : gaugesE l t now ≠ 0 := of_decide_eq_true c16
  have hfin := soundF_e (soundE_g (wrong := wrong) c16) c16
  refine seq <| region <| sv (yBuild zeroValue69 rfl pl69 .nil rfl) <| vM ?_
  refine sS hS rfl sizeOf69 fun w hS => ?_
  refine vA <| nil <| cwQ ?_
  refine wp_ret (blockR (thenR ?_))
  exact retV (resV2 rfl (rc rfl isAgg69 sizeOf69 (hS.at _) (by rw [hfin]; rfl) rfl) (rt (eqI (by rw [hfin])))) hS.ext
 have c16 : ¬ gaugesE l t now ≠ 0 := of_decide_eq_false c16
 obtain ⟨h8, hok, hnd, htk⟩ := gaugesE_zero (Classical.not_not.1 c16)
 obtain ⟨htb, hnb⟩ := ticks2b htk
 refine seq <| region <| vL rfl isAgg3 hS rfl <| vL rfl isAgg25 hS rfl <| sv (yLen rfl underlying25) <| sv (ySubQ rfl rfl) ?_
 refine scV hS call100 e3 c_out fun w hS => ?_
 refine vA <| nil <| cwQ ?_
 refine cond rfl (fun c21 => ?_) (fun c21 => ?_)
 ·
  have hfin := soundF_e (soundE_w c16 c21) (by decide)
  refine seq <| region <| sv (yBuild zeroValue69 rfl pl69 .nil rfl) ?_
  refine sS hS rfl sizeOf69 fun w hS => ?_
  refine vA <| nil <| cwQ ?_
  refine wp_ret (blockR (thenR ?_))
  exact retV (resV2 rfl (rc rfl isAgg69 sizeOf69 (hS.at _) (by rw [hfin]; rfl) rfl) (rt (eqI (by rw [hfin])))) hS.ext
 have h0 := soundE_ok c16 c21
 have hwb := outB_false.1 c21
 have hI : I64 ((l.length : Int) - wrong) := ⟨by omega, by omega⟩
 refine skip <| cwQ <| seq <| region <| vL rfl isAgg25 hS rfl <| vM <| vM ?_
 refine scall call118 e3 (c_pieces (hl.ext RGauge.stays hS.ext) hok htb (by omega)) ?_
 rintro pv w hM; replace hS := hS.call1 hM; clear hM; obtain ⟨ap, cp, rfl⟩ := row_shape (hS.row pv)
 have hpl := piecesF_len t now l
 have hb4 : b4 ∉ (Value.slice ap (piecesF t now l).length cp).ownBlock.toList := fun h => (hS.sub (M := [rowI (.slice ap (piecesF t now l).length cp) 231 3 (piecesF t now l).length ((piecesF t now l).flatMap pieceC), blk b4 [.slice a l.length cap] 25]) (.cons_cons _ (.cons _ (.cons _ (.cons_cons _ (List.nil_sublist _)))))).apart2 h (by simp [cellI])
 have hb5 : b5 ∉ (Value.slice ap (piecesF t now l).length cp).ownBlock.toList := fun h => (hS.sub (M := [rowI (.slice ap (piecesF t now l).length cp) 231 3 (piecesF t now l).length ((piecesF t now l).flatMap pieceC), blk b5 [.int .i64 wrong] 3]) (.cons_cons _ (.cons _ (.cons_cons _ (List.nil_sublist _))))).apart2 h (by simp [cellI])
 refine sv (yFn e2) ?_
 refine scall call117 e2 (c_DeleteFuncP (l := piecesF t now l) (p := fun x => decide (x.2 < (l.length : Int) - wrong)) (cl := [ptQ b4, ptQ b5]) (hS.row (.slice ap (piecesF t now l).length cp)) call119 (fun x w _ e => c_Sound1 (e.get (hS.at b4) hb4) (e.get (hS.at b5) hb5) hI) (by omega)) ?_
 rintro u w ⟨hu, hM⟩
 have hu2 : u = .slice ap (enough ((l.length : Int) - wrong) (piecesF t now l)).length cp := hu
 subst hu2
 clear hu
 replace hM : StX (Value.slice ap (piecesF t now l).length cp).ownBlock.toList _ w [rowI (.slice ap (enough ((l.length : Int) - wrong) (piecesF t now l)).length cp) 231 3 (enough ((l.length : Int) - wrong) (piecesF t now l)).length ((enough ((l.length : Int) - wrong) (piecesF t now l)).flatMap pieceC)] := hM
 replace hS := hS.app (v := .slice ap (piecesF t now l).length cp) (v' := .slice ap (enough ((l.length : Int) - wrong) (piecesF t now l)).length cp) (hM.row _) hM.grown (.inl own_slice)
 clear hM hb4 hb5
 generalize hee : enough ((l.length : Int) - wrong) (piecesF t now l) = ee at hS ⊢
 refine vA <| nil <| cwQ <| seq <| seq <| region <| vM <| sv (yLen rfl underlying228) <| sv (yEql rfl rfl) <| nil <| cwQ ?_
 refine cond rfl ?_ ?_ <;> intro c36 <;> simp only [BS, ne_eq] at c36
 ·
  obtain rfl : ee = [] := List.eq_nil_of_length_eq_zero (by omega)
  have hfin : soundF l wrong t now = (⟨0, 0⟩, 9) := by rw [soundF_ok h0, hee]; rfl
  refine seq <| region <| sv (yBuild zeroValue69 rfl pl69 .nil rfl) ?_
  refine sS hS rfl sizeOf69 fun w hS => ?_
  refine vA <| nil <| cwQ ?_
  refine wp_ret (thenR ?_)
  exact retV (resV2 rfl (rc rfl isAgg69 sizeOf69 (hS.at _) (by rw [hfin]; rfl) rfl) (rt (eqI (by rw [hfin])))) hS.ext
 have hne : ee ≠ [] := fun h => by rw [h] at c36; simp at c36
 have hpos := List.length_pos_iff.2 hne
 have heel : ee.length ≤ (piecesF t now l).length := by rw [← hee]; exact List.length_filter_le _ _
 have hfin : soundF l wrong t now = (⟨(ee.getD 0 (⟨0, 0⟩, 0)).1.lo, (ee.getD (ee.length - 1) (⟨0, 0⟩, 0)).1.hi⟩, 0) := by rw [soundF_ok h0, hee, soundP_some hne]
 obtain ⟨gp, rfl, -⟩ := row_get (hS.row (.slice ap ee.length cp)) hpos
 refine skip <| cwQ <| seq <| region_tail mixed 14 (by kernel_rfl) hS <| qv (fun w hS => yMove rfl) <| qv (fun w hS => yIx0 (m := 0) rfl rfl runUnderlying228 sizeOf231 (by omega)) <| qv (fun w hS => fa231_0 rfl) <| qv (fun w hS => fa69_0 rfl) <| qv (fun w hS => yLd rfl isAgg3 ((flat_cells0 pieceC_len (row_at (hS.row (.slice (some ⟨gp, 0, none⟩) ee.length cp)) rfl (by omega)) (getD_some (d := (⟨0, 0⟩, 0)) hpos)).at (j := 0) rfl)) <| qv (fun w hS => yMove rfl) <| qv (fun w hS => yMove rfl) <| qv (fun w hS => yLen rfl underlying228) ?_
 refine qv (fun w hS => Y.to (ySubQ rfl rfl) (show Value.int .i64 ((ee.length : Int) - 1) = .int .i64 ((ee.length - 1 : Nat) : Int) by congr 1; omega)) ?_
 refine qv (fun w hS => yIx0 (m := ee.length - 1) rfl rfl runUnderlying228 sizeOf231 (by omega)) <| qv (fun w hS => fa231_0 rfl) <| qv (fun w hS => fa69_1 rfl) <| qv (fun w hS => yLd rfl isAgg3 ((flat_cells0 pieceC_len (row_at (hS.row (.slice (some ⟨gp, 0, none⟩) ee.length cp)) rfl (by omega)) (getD_some (d := (⟨0, 0⟩, 0)) (show ee.length - 1 < ee.length by omega))).at (j := 1) rfl)) <| qv (fun w hS => yBuild zeroValue69 rfl pl69 (.cons rfl rfl (.cons rfl rfl .nil)) rfl) ?_
 clear hS; refine qtl (fun w hS => ?_)
 refine sS hS rfl sizeOf69 fun w hS => ?_
 refine vA <| nil <| cwQ <| wp_ret ?_
 exact retV (resV2 rfl (rc rfl isAgg69 sizeOf69 (hS.at _) (by rw [hfin]; rfl) rfl) (rt (eqI (by rw [hfin])))) hS.ext
theorem c_outS {a lo hi : Int} {w0 : World} : CV Tryz.prog 32 #[.int .i64 a, .int .i64 lo, .int .i64 hi] w0 (.bool (outB a lo hi)) := by
 refine enQ func32 rfl ntmps32 rfl fun hS => ?_
 refine seq <| region <| vA <| nil <| cwQ <| seq <| region <| vM <| vM <| sv (yLss rfl rfl) <| vM ?_
 refine sg rfl rfl rfl (fun g => (yMove rfl)) (fun v11 g11 => ?_)
 refine sg rfl rfl rfl (fun g => (yMove rfl)) (fun v12 g12 => ?_)
 refine sg rfl rfl rfl (fun g => (yGtr (g11.1 g) (g12.1 g))) (fun v13 g13 => ?_)
 refine sv (yOr rfl rfl (fun hB => (g13.1 hB))) <| vA <| nil <| cwQ <| wp_ret ?_
 exact rvQ hS
theorem c_IndexCtr {l : List Ctr} {p : Ctr → Bool} {v : Value} {g : Nat} {cl : List Value} {w0 : World} (hsl : Sl w0 4 RCtr v l) (hcall : ∀ ys w, (callFunc g ys).run Tryz.prog w = .ok (.enter g ys) w) (hp : ∀ x w, x ∈ l → Ext w0 w → CV Tryz.prog g (.agg (ctrC x).toArray :: cl).toArray w (.bool (p x))) : CV Tryz.prog 128 #[v, .func (.func g) #[] cl.toArray] w0 (.int .i64 (idxF p l 0)) := by
 obtain ⟨a, cap, rfl, hcap, hmx, hel⟩ := hsl
 refine enQ func128 rfl ntmps128 rfl fun hS => ?_
 refine seq <| region <| vA <| nil <| cwQ <| seq <| seq <| region <| vM <| sv (yLen rfl underlying26) <| vM <| nil <| cwQ ?_
 refine block <| loop (fun f w zz => ∃ (k : Nat), f 0 = .slice a l.length cap ∧ f 1 = .func (.func g) #[] cl.toArray ∧ f 7 = .int .i64 (l.length : Int) ∧ f 8 = .int .i64 (k : Int) ∧ StX [] w0 w [] ∧ (k ≤ l.length) ∧ (idxF p l 0 = idxF p (l.drop k) k) ∧ zz = l.length - k) _ ⟨_, rfl, 0, rfl, rfl, rfl, rfl, hS, (Nat.zero_le _), (rfl), rfl⟩ ?_
 clear hS
 rintro f w _ ⟨k, h0, h1, h7, h8, hS, hk, hI, rfl⟩
 refine seq <| region <| sv (yLss h8 h7) <| nil <| cwQ <| seq ?_
 refine cond rfl ?_ ?_ <;> intro c9 <;> simp only [BS, ne_eq] at c9
 ·
  refine skip <| cwQ <| seq <| block <| seq <| region <| sv (yMove h8) <| vA <| nil <| cwQ <| seq <| region ?_
  obtain ⟨x, hx, hd⟩ := drop_of (l := l) (k := k) (by omega)
  obtain ⟨b, o, cs, ha, hlen, hcs, hR⟩ := hel k (by omega)
  obtain rfl : x = l[k] := (List.getElem?_eq_some_iff.1 hx).2.symm
  obtain ⟨rfl, -⟩ := hR
  refine sv (yMove h1) <| sv (yMove h0) <| vM <| sv (yIxQ rfl ha rfl runUnderlying26 sizeOf118) <| sv (yLdA rfl isAgg118 sizeOf118 (hcs.ext hS.ext) rfl) ?_
  refine scallf rfl hcall e1 (hp _ _ (List.getElem_mem _) hS.ext) ?_
  rintro _ w ⟨rfl, hE⟩; replace hS := hS.step hE; clear hE
  refine nil <| cwQ ?_
  refine cond rfl (fun c16 => ?_) (fun c16 => ?_)
  ·
   refine seq <| region <| vM <| vA <| nil <| cwQ ?_
   refine wp_ret (blockR (thenR (thenR (blockR (thenR ?_)))))
   exact retV (res1 rfl (by rw [hI, hd, idxF, if_pos c16]; rfl)) hS.ext
  refine skip <| cwQ <| region <| sv (yAddQ h8 rfl) <| vM <| nil ?_
  exact ⟨_, _, rfl, ⟨k + 1, h0, h1, h7, rfl, hS, (by omega), (by rw [hI, hd, idxF, if_neg (by simp [c16])]; rfl), rfl⟩, by omega⟩
 refine exit <| cwQ <| seq <| region <| vA <| nil <| cwQ ?_
 obtain rfl : k = l.length := by omega
 refine wp_ret ?_
 exact retV (res1 rfl (by rw [hI, List.drop_length]; rfl)) hS.ext
theorem c_ContainsCtr {l : List Ctr} {p : Ctr → Bool} {v : Value} {g : Nat} {cl : List Value} {w0 : World} (hsl : Sl w0 4 RCtr v l) (hcall : ∀ ys w, (callFunc g ys).run Tryz.prog w = .ok (.enter g ys) w) (hp : ∀ x w, x ∈ l → Ext w0 w → CV Tryz.prog g (.agg (ctrC x).toArray :: cl).toArray w (.bool (p x))) : CV Tryz.prog 89 #[v, .func (.func g) #[] cl.toArray] w0 (.bool (l.any p)) := by
 refine enQ func89 rfl ntmps89 rfl fun hS => ?_
 refine seq <| region <| vA <| nil <| cwQ <| seq <| region <| vM <| vM ?_
 refine scV hS call128 e2 (c_IndexCtr hsl hcall hp) fun w hS => ?_
 refine sv (yGeq rfl rfl) <| vA <| nil <| cwQ <| wp_ret ?_
 exact retV (res1 rfl (by rw [← idxF_any p l 0 (Int.le_refl 0)]; rfl)) hS.ext
theorem c_IndexFct {l : List Fct} {p : Fct → Bool} {v : Value} {g : Nat} {cl : List Value} {w0 : World} (hsl : Sl w0 4 RFct v l) (hcall : ∀ ys w, (callFunc g ys).run Tryz.prog w = .ok (.enter g ys) w) (hp : ∀ x cs w, x ∈ l → Ext w0 w → RFct w cs x → CV Tryz.prog g (.agg cs.toArray :: cl).toArray w (.bool (p x))) : CV Tryz.prog 131 #[v, .func (.func g) #[] cl.toArray] w0 (.int .i64 (idxF p l 0)) := by
 obtain ⟨a, cap, rfl, hcap, hmx, hel⟩ := hsl
 refine enQ func131 rfl ntmps131 rfl fun hS => ?_
 refine seq <| region <| vA <| nil <| cwQ <| seq <| seq <| region <| vM <| sv (yLen rfl underlying27) <| vM <| nil <| cwQ ?_
 refine block <| loop (fun f w zz => ∃ (k : Nat), f 0 = .slice a l.length cap ∧ f 1 = .func (.func g) #[] cl.toArray ∧ f 7 = .int .i64 (l.length : Int) ∧ f 8 = .int .i64 (k : Int) ∧ StX [] w0 w [] ∧ (k ≤ l.length) ∧ (idxF p l 0 = idxF p (l.drop k) k) ∧ zz = l.length - k) _ ⟨_, rfl, 0, rfl, rfl, rfl, rfl, hS, (Nat.zero_le _), (rfl), rfl⟩ ?_
 clear hS
 rintro f w _ ⟨k, h0, h1, h7, h8, hS, hk, hI, rfl⟩
 refine seq <| region <| sv (yLss h8 h7) <| nil <| cwQ <| seq ?_
 refine cond rfl ?_ ?_ <;> intro c9 <;> simp only [BS, ne_eq] at c9
 ·
  refine skip <| cwQ <| seq <| block <| seq <| region <| sv (yMove h8) <| vA <| nil <| cwQ <| seq <| region ?_
  obtain ⟨x, hx, hd⟩ := drop_of (l := l) (k := k) (by omega)
  obtain ⟨b, o, cs, ha, hlen, hcs, hR⟩ := hel k (by omega)
  obtain rfl : x = l[k] := (List.getElem?_eq_some_iff.1 hx).2.symm
  refine sv (yMove h1) <| sv (yMove h0) <| vM <| sv (yIxQ rfl ha rfl runUnderlying27 sizeOf121) <| sv (yLdA rfl isAgg121 sizeOf121 (hcs.ext hS.ext) hlen) ?_
  refine scallf rfl hcall e1 (hp _ _ _ (List.getElem_mem _) hS.ext (RFct.stays _ _ _ _ hS.ext hR)) ?_
  rintro _ w ⟨rfl, hE⟩; replace hS := hS.step hE; clear hE
  refine nil <| cwQ ?_
  refine cond rfl (fun c16 => ?_) (fun c16 => ?_)
  ·
   refine seq <| region <| vM <| vA <| nil <| cwQ ?_
   refine wp_ret (blockR (thenR (thenR (blockR (thenR ?_)))))
   exact retV (res1 rfl (by rw [hI, hd, idxF, if_pos c16]; rfl)) hS.ext
  refine skip <| cwQ <| region <| sv (yAddQ h8 rfl) <| vM <| nil ?_
  exact ⟨_, _, rfl, ⟨k + 1, h0, h1, h7, rfl, hS, (by omega), (by rw [hI, hd, idxF, if_neg (by simp [c16])]; rfl), rfl⟩, by omega⟩
 refine exit <| cwQ <| seq <| region <| vA <| nil <| cwQ ?_
 obtain rfl : k = l.length := by omega
 refine wp_ret ?_
 exact retV (res1 rfl (by rw [hI, List.drop_length]; rfl)) hS.ext
theorem c_ContainsFct {l : List Fct} {p : Fct → Bool} {v : Value} {g : Nat} {cl : List Value} {w0 : World} (hsl : Sl w0 4 RFct v l) (hcall : ∀ ys w, (callFunc g ys).run Tryz.prog w = .ok (.enter g ys) w) (hp : ∀ x cs w, x ∈ l → Ext w0 w → RFct w cs x → CV Tryz.prog g (.agg cs.toArray :: cl).toArray w (.bool (p x))) : CV Tryz.prog 96 #[v, .func (.func g) #[] cl.toArray] w0 (.bool (l.any p)) := by
 refine enQ func96 rfl ntmps96 rfl fun hS => ?_
 refine seq <| region <| vA <| nil <| cwQ <| seq <| region <| vM <| vM ?_
 refine scV hS call131 e2 (c_IndexFct hsl hcall hp) fun w hS => ?_
 refine sv (yGeq rfl rfl) <| vA <| nil <| cwQ <| wp_ret ?_
 exact retV (res1 rfl (by rw [← idxF_any p l 0 (Int.le_refl 0)]; rfl)) hS.ext
theorem c_IndexRow {l : List (List Int)} {p : (List Int) → Bool} {v : Value} {g : Nat} {cl : List Value} {w0 : World} (hsl : Sl w0 1 RRow v l) (hcall : ∀ ys w, (callFunc g ys).run Tryz.prog w = .ok (.enter g ys) w) (hp : ∀ x x0 w, x ∈ l → Ext w0 w → RRow w [x0] x → CV Tryz.prog g (x0 :: cl).toArray w (.bool (p x))) : CV Tryz.prog 129 #[v, .func (.func g) #[] cl.toArray] w0 (.int .i64 (idxF p l 0)) := by
 obtain ⟨a, cap, rfl, hcap, hmx, hel⟩ := hsl
 refine enQ func129 rfl ntmps129 rfl fun hS => ?_
 refine seq <| region <| vA <| nil <| cwQ <| seq <| seq <| region <| vM <| sv (yLen rfl underlying119) <| vM <| nil <| cwQ ?_
 refine block <| loop (fun f w zz => ∃ (k : Nat), f 0 = .slice a l.length cap ∧ f 1 = .func (.func g) #[] cl.toArray ∧ f 7 = .int .i64 (l.length : Int) ∧ f 8 = .int .i64 (k : Int) ∧ StX [] w0 w [] ∧ (k ≤ l.length) ∧ (idxF p l 0 = idxF p (l.drop k) k) ∧ zz = l.length - k) _ ⟨_, rfl, 0, rfl, rfl, rfl, rfl, hS, (Nat.zero_le _), (rfl), rfl⟩ ?_
 clear hS
 rintro f w _ ⟨k, h0, h1, h7, h8, hS, hk, hI, rfl⟩
 refine seq <| region <| sv (yLss h8 h7) <| nil <| cwQ <| seq ?_
 refine cond rfl ?_ ?_ <;> intro c9 <;> simp only [BS, ne_eq] at c9
 ·
  refine skip <| cwQ <| seq <| block <| seq <| region <| sv (yMove h8) <| vA <| nil <| cwQ <| seq <| region ?_
  obtain ⟨x, hx, hd⟩ := drop_of (l := l) (k := k) (by omega)
  obtain ⟨b, o, cs, ha, hlen, hcs, hR⟩ := hel k (by omega)
  obtain rfl : x = l[k] := (List.getElem?_eq_some_iff.1 hx).2.symm
  obtain ⟨x0, rfl⟩ : ∃ x0, cs = [x0] := List.length_eq_one_iff.1 hlen
  refine sv (yMove h1) <| sv (yMove h0) <| vM <| sv (yIxQ rfl ha rfl runUnderlying119 sizeOf30) <| sv (yLd rfl isAgg30 (hcs.ext hS.ext).one) ?_
  refine scallf rfl hcall e1 (hp _ _ _ (List.getElem_mem _) hS.ext (RRow.stays _ _ _ _ hS.ext hR)) ?_
  rintro _ w ⟨rfl, hE⟩; replace hS := hS.step hE; clear hE
  refine nil <| cwQ ?_
  refine cond rfl (fun c16 => ?_) (fun c16 => ?_)
  ·
   refine seq <| region <| vM <| vA <| nil <| cwQ ?_
   refine wp_ret (blockR (thenR (thenR (blockR (thenR ?_)))))
   exact retV (res1 rfl (by rw [hI, hd, idxF, if_pos c16]; rfl)) hS.ext
  refine skip <| cwQ <| region <| sv (yAddQ h8 rfl) <| vM <| nil ?_
  exact ⟨_, _, rfl, ⟨k + 1, h0, h1, h7, rfl, hS, (by omega), (by rw [hI, hd, idxF, if_neg (by simp [c16])]; rfl), rfl⟩, by omega⟩
 refine exit <| cwQ <| seq <| region <| vA <| nil <| cwQ ?_
 obtain rfl : k = l.length := by omega
 refine wp_ret ?_
 exact retV (res1 rfl (by rw [hI, List.drop_length]; rfl)) hS.ext
theorem c_ContainsRow {l : List (List Int)} {p : (List Int) → Bool} {v : Value} {g : Nat} {cl : List Value} {w0 : World} (hsl : Sl w0 1 RRow v l) (hcall : ∀ ys w, (callFunc g ys).run Tryz.prog w = .ok (.enter g ys) w) (hp : ∀ x x0 w, x ∈ l → Ext w0 w → RRow w [x0] x → CV Tryz.prog g (x0 :: cl).toArray w (.bool (p x))) : CV Tryz.prog 91 #[v, .func (.func g) #[] cl.toArray] w0 (.bool (l.any p)) := by
 refine enQ func91 rfl ntmps91 rfl fun hS => ?_
 refine seq <| region <| vA <| nil <| cwQ <| seq <| region <| vM <| vM ?_
 refine scV hS call129 e2 (c_IndexRow hsl hcall hp) fun w hS => ?_
 refine sv (yGeq rfl rfl) <| vA <| nil <| cwQ <| wp_ret ?_
 exact retV (res1 rfl (by rw [← idxF_any p l 0 (Int.le_refl 0)]; rfl)) hS.ext
theorem c_gausS {t : Sgt} {cs : List Value} {w0 : World} (h : RSgt w0 cs t) : CV Tryz.prog 59 #[.agg cs.toArray] w0 (.tuple #[.int .i64 (gausE t).1, .int .i64 (gausE t).2]) := by
 obtain ⟨cv, gv, tv, fv, rfl, hT, hG, hw64, hf64, hk64, hC, hF, hl64, hm64, hr64, hq64⟩ := id h
 obtain ⟨ag, cg, rfl, hgcap, hgmx, hgel⟩ := id hG
 obtain ⟨ak, ck, rfl, hkcap, hkmx, hkel⟩ := id hC
 obtain ⟨ae, ce, rfl, hecap, hemx, heel⟩ := id hF
 refine enQ func59 rfl ntmps59 rfl fun hS => ?_
 refine seq <| region ?_
 refine sbox hS rfl rfl fun b1 w hS => ?_
 refine vA <| vA <| nil <| cwQ <| seq <| seq <| region <| sv (fa29_1 rfl) <| vL rfl isAgg25 hS rfl <| sv (yLen rfl underlying25) <| sv (yGtr rfl rfl) <| nil <| cwQ ?_
 refine cond rfl ?_ ?_ <;> intro c13 <;> simp only [BS, ne_eq] at c13
 ·
  refine seq <| region <| vA <| vA <| nil <| cwQ ?_
  have hfin : gausE t = (0, 3) := by unfold gausE; rw [if_pos c13]
  refine wp_ret (thenR ?_)
  exact retV (res2 rfl (by rw [hfin]; rfl) (by rw [hfin]; rfl)) hS.ext
 refine skip <| cwQ <| seq <| region ?_
 refine smkmap Value.string hS ?_; clear hS; intro b14 w hS
 refine vA <| nil <| cwQ <| seq <| seq <| region <| sv (fa29_1 rfl) <| vL rfl isAgg25 hS rfl <| sv (yLen rfl underlying25) <| vM <| nil <| cwQ <| block ?_
 refine loop (fun f w zz => ∃ (k : Nat), f 1 = ptQ b1 ∧ f 4 = .map (some b14) ∧ f 16 = .slice ag t.gauges.length cg ∧ f 17 = .int .i64 (t.gauges.length : Int) ∧ f 18 = .int .i64 (k : Int) ∧ StX [] w0 w [mapI b14 Value.string (seenM ((t.gauges.take k).map (·.name))), blk b1 (scQ t cv ag ak ae cg ck ce) 29] ∧ (k ≤ t.gauges.length) ∧ (firstN (gE t.gauges) t.gauges.length 0 = firstN (gE t.gauges) (t.gauges.length - k) k) ∧ zz = t.gauges.length - k) _ ⟨_, rfl, 0, rfl, rfl, rfl, rfl, rfl, hS, (Nat.zero_le _), (rfl), rfl⟩ ?_
 clear hS
 rintro f w _ ⟨k, h1, h4, h16, h17, h18, hS, hk, hI, rfl⟩
 refine seq <| region <| sv (yLss h18 h17) <| nil <| cwQ <| seq ?_
 refine cond rfl ?_ ?_ <;> intro c19 <;> simp only [BS, ne_eq] at c19
 ·
  refine skip <| cwQ <| seq <| block <| seq <| region ?_
  obtain ⟨g, hx, hd⟩ := drop_of (l := t.gauges) (k := k) (by omega)
  obtain ⟨b, o, cs, ha, hlen, hcs, hR⟩ := hgel (k) (by omega)
  obtain rfl : g = t.gauges[k] := (List.getElem?_eq_some_iff.1 hx).2.symm
  generalize t.gauges[k] = g at hx hd hR
  have hg := hR
  obtain ⟨dv, rv, hcse, hnm, hge, hgr, hsd, hsr⟩ := id hg
  subst hcse
  obtain ⟨a1, cap1, rfl, hcap1, hmx1, hel1⟩ := id hsd
  obtain ⟨a2, cap2, rfl, hcap2, hmx2, hel2⟩ := id hsr
  refine sv (yMove h18) <| sv (yIxQ h16 ha h18 runUnderlying25 sizeOf201) <| sv (yLdA rfl isAgg201 sizeOf201 (hcs.ext hS.ext) hlen) ?_
  refine salloc hS zeroValue201 rfl fun b6 w hS => ?_
  refine vA ?_
  refine sS hS rfl sizeOf201 fun w hS => ?_
  refine nil <| cwQ <| seq <| region <| sv (yLdBA rfl isAgg201 sizeOf201 (hS.at _) rfl rfl) ?_
  refine scV hS call87 e1 (c_CheckGauge (hg.ext hS.ext)) fun w hS => ?_
  refine vM <| sv (yExt rfl rfl) <| sv (yExt rfl rfl) <| sv (yExt rfl rfl) <| vA <| vA <| vA <| nil <| cwQ <| seq <| seq <| region <| vM ?_
  refine sv (yEql rfl rfl) <| vM ?_
  refine sg rfl rfl rfl (fun g => (yMove h4)) (fun v32 g32 => ?_)
  refine sg rfl rfl rfl (fun g => (fa201_0 rfl)) (fun v33 g33 => ?_)
  refine sg rfl rfl rfl (fun g => (yLdB (g33.1 g) isAgg9 (hS.at _) rfl)) (fun v34 g34 => ?_)
  refine sg rfl rfl rfl (fun g => (yLook Value.string (g32.1 g) (g34.1 g) runUnderlying197 (keyStr underlying9) zeroValue4 (hS.is b14) (getM_seen _ _))) (fun v35 g35 => ?_)
  refine sv (yAnd rfl (fun hB => (g35.1 hB)) rfl) <| nil <| cwQ ?_
  refine cond rfl ?_ ?_ <;> intro c36 <;> simp only [BS, ne_eq] at c36
  ·
   refine region <| vA <| nil <| cwQ <| seq <| seq <| region <| vM <| sv (yNeq rfl rfl) <| nil <| cwQ ?_
   refine cond rfl ?_ ?_ <;> intro c38 <;> simp only [BS, ne_eq] at c38
   ·
    refine seq <| region <| vM <| vM <| vA <| vA <| nil <| cwQ ?_
    have hgz := gE_5 hx c36.1 c36.2
    have hN : firstN (gE t.gauges) t.gauges.length 0 = ((k : Int), 5) := by rw [hI, firstN_at (by omega) (by rw [hgz]; exact (show (5 : Int) ≠ 0 by decide)), hgz]
    have hfin : gausE t = ((k : Int), 5) := by unfold gausE; rw [if_neg c13, if_pos (by rw [hN]; exact (show (5 : Int) ≠ 0 by decide)), hN]
    refine wp_ret (thenR (blockR (thenR (thenR (blockR (thenR ?_))))))
    exact retV (res2 rfl (by rw [hfin]; rfl) (by rw [hfin]; rfl)) hS.ext
   exact absurd c38 (by decide)
  refine skip <| cwQ <| seq <| seq <| region <| vM <| sv (yNeq rfl rfl) <| nil <| cwQ ?_
  refine cond rfl ?_ ?_ <;> intro c38 <;> simp only [BS, ne_eq] at c38
  ·
   refine seq <| region <| vM <| vM <| vA <| vA <| nil <| cwQ ?_
   have hgz := gE_g hx c38
   have hN : firstN (gE t.gauges) t.gauges.length 0 = ((k : Int), (checkG g).2.2) := by rw [hI, firstN_at (by omega) (by rw [hgz]; exact c38), hgz]
   have hfin : gausE t = ((k : Int), (checkG g).2.2) := by unfold gausE; rw [if_neg c13, if_pos (by rw [hN]; exact c38), hN]
   refine wp_ret (thenR (blockR (thenR (thenR (blockR (thenR ?_))))))
   exact retV (res2 rfl (by rw [hfin]; rfl) (by rw [hfin]; rfl)) hS.ext
  have hm0 : memB g.name ((t.gauges.take k).map (·.name)) = false := c36.resolve_left (fun q => q c38)
  refine skip <| cwQ <| region <| sv (yMove h4) <| sv (fa201_0 rfl) <| vL rfl isAgg9 hS rfl ?_
  refine smapset Value.string hS rfl rfl rfl runUnderlying197 (keyStr underlying9) ?_; clear hS; intro w hS
  refine nil <| cwQ <| region <| sv (yAddQ h18 rfl) <| vM <| nil ?_
  exact ⟨_, _, rfl, ⟨k + 1, h1, h4, h16, h17, rfl, (by rw [take_snoc hx, List.map_append, List.map_cons, List.map_nil, ← setM_seen _ _ (fun k => by rw [memB_iff.2 k] at hm0; cases hm0)]; exact hS.sub (.cons _ lrQ)), (by omega), (by rw [hI]; exact firstN_go (by omega) (gE_0 hx c38 hm0)), rfl⟩, by omega⟩
 obtain rfl : k = t.gauges.length := by omega
 have he : (firstN (gE t.gauges) t.gauges.length 0).2 = 0 := by rw [hI, Nat.sub_self]; rfl
 refine exit <| cwQ <| seq <| seq <| region <| sv (fa29_2 h1) <| vL rfl isAgg3 hS rfl <| sv (yNeq rfl rfl) <| vM ?_
 refine sg rfl rfl rfl (fun g => (fa29_2 h1)) (fun v49 g49 => ?_)
 refine sg rfl rfl rfl (fun g => (yLdB (g49.1 g) isAgg3 (hS.at _) rfl)) (fun v50 g50 => ?_)
 refine sg rfl rfl rfl (fun g => (fa29_1 h1)) (fun v51 g51 => ?_)
 refine sg rfl rfl rfl (fun g => (yLdB (g51.1 g) isAgg25 (hS.at _) rfl)) (fun v52 g52 => ?_)
 refine sg rfl rfl rfl (fun g => (yLen (g52.1 g) underlying25)) (fun v53 g53 => ?_)
 refine sg rfl rfl rfl (fun g => (ySub (g53.1 g) rfl ⟨by omega, by omega⟩)) (fun v54 g54 => ?_)
 refine sgc hS rfl rfl rfl call32 (fun g => (.cons (g50.1 g) (.cons rfl (.cons (g54.1 g) .nil)))) (fun g => c_outS) ?_; clear hS; intro v55 w hS g55
 refine sv (yAnd rfl (fun hB => (g55.1 hB)) rfl) <| nil <| cwQ ?_
 refine cond rfl (fun c56 => ?_) (fun c56 => ?_)
 ·
  refine seq <| region <| vA <| vA <| nil <| cwQ ?_
  have hfin : gausE t = (0, 7) := by unfold gausE; rw [if_neg c13, if_neg (fun k => k he), if_pos (show wrongB t = true from c56)]
  refine wp_ret (thenR ?_)
  exact retV (res2 rfl (by rw [hfin]; rfl) (by rw [hfin]; rfl)) hS.ext
 refine skip <| cwQ <| seq <| region <| vA <| vA <| nil <| cwQ ?_
 have hfin : gausE t = (0, 0) := by unfold gausE; rw [if_neg c13, if_neg (fun k => k he), if_neg (show ¬ wrongB t = true from by rw [show wrongB t = false from c56]; decide)]
 refine wp_ret ?_
 exact retV (res2 rfl (by rw [hfin]; rfl) (by rw [hfin]; rfl)) hS.ext
theorem c_centS1 {x z : Ctr} {b : Nat} {T : TypeId} {w0 : World} (hb : w0.heap[b]? = some (.cells [.string z.name, .int .i64 z.late, .int .i64 z.base, .int .i64 z.growth].toArray T (0, 0))) : CV Tryz.prog 90 #[.agg (ctrC x).toArray, ptQ b] w0 (.bool (decide (x.name = z.name))) := by
 refine enQ func90 rfl ntmps90 rfl fun hS => ?_
 refine seq <| region ?_
 refine sbox hS rfl rfl fun b2 w hS => ?_
 refine vA <| nil <| cwQ <| seq <| region <| sv (fa118_0 rfl) <| vL rfl isAgg9 hS rfl <| sv (fa118_0 rfl) <| sv (yLdB rfl isAgg9 (hS.ext.get hb) rfl) <| sv (ySEq rfl rfl) <| vA <| nil <| cwQ ?_
 refine wp_ret ?_
 exact rvQ hS
theorem c_centS {t : Sgt} {cs : List Value} {i : Nat} {w0 : World} (h : RSgt w0 cs t) (hi : i < t.ctrs.length) : CV Tryz.prog 60 #[.agg cs.toArray, .int .i64 (i : Int)] w0 (.int .i64 (cE t.ctrs i)) := by
 obtain ⟨cv, gv, tv, fv, rfl, hT, hG, hw64, hf64, hk64, hC, hF, hl64, hm64, hr64, hq64⟩ := id h
 obtain ⟨ag, cg, rfl, hgcap, hgmx, hgel⟩ := id hG
 obtain ⟨ak, ck, rfl, hkcap, hkmx, hkel⟩ := id hC
 obtain ⟨ae, ce, rfl, hecap, hemx, heel⟩ := id hF
 obtain ⟨bx, ox, cx, hax, hlx, hcx, hRx, -⟩ := sl_at hC (ctr_get hi)
 obtain ⟨rfl, hnm, -⟩ := hRx
 refine enQ func60 rfl ntmps60 rfl fun hS => ?_
 refine seq <| region ?_
 refine sbox hS rfl rfl fun b2 w hS => ?_
 refine vA <| nil <| cwQ <| seq <| region <| sv (fa29_5 rfl) <| vL rfl isAgg26 hS rfl <| vM <| sv (yIxQ rfl hax rfl runUnderlying26 sizeOf118) <| sv (yLdA rfl isAgg118 sizeOf118 (hcx.ext hS.ext) rfl) ?_
 refine salloc hS zeroValue118 rfl fun b5 w hS => ?_
 refine sS hS rfl sizeOf118 fun w hS => ?_
 refine nil <| cwQ <| seq <| block <| seq <| region <| sv (fa118_0 rfl) <| vL rfl isAgg9 hS rfl ?_
 refine scV hS call88 e1 (c_Name hnm) fun w hS => ?_
 refine sv (yNot rfl) <| vA <| nil <| cwQ ?_
 refine cond rfl (fun c11 => ?_) (fun c11 => ?_)
 ·
  refine seq <| region <| vA <| nil <| cwQ ?_
  refine wp_ret (blockR (thenR ?_))
  exact retV (res1 rfl (eqI (by unfold cE; rw [if_pos c11]))) hS.ext
 refine seq <| region <| sv (fa29_5 rfl) <| vL rfl isAgg26 hS rfl <| vM <| sv (yTo rfl rfl underlying26 sizeOf118 (by omega)) <| sv (yFn e1) ?_
 refine scV hS call89 e2 (c_ContainsCtr (l := t.ctrs.take i) (p := fun x => decide (x.name = (ctr t.ctrs i).name)) (cl := [ptQ b5]) ((hC.take (by omega)).ext RCtr.stays hS.ext) call90 (fun x w hx e => c_centS1 (e.get (hS.at b5)))) fun w hS => ?_
 refine vA <| nil <| cwQ ?_
 refine cond rfl (fun c16 => ?_) (fun c16 => ?_)
 ·
  refine seq <| region <| vA <| nil <| cwQ ?_
  refine wp_ret (blockR (thenR ?_))
  exact retV (res1 rfl (eqI (by unfold cE; rw [if_neg (by rw [c11]; decide), if_pos c16]))) hS.ext
 refine seq <| region <| sv (fa118_1 rfl) <| vL rfl isAgg3 hS rfl ?_
 refine scV hS call32 e3 c_outS fun w hS => ?_
 refine vM ?_
 refine sg rfl rfl rfl (fun g => (fa118_2 rfl)) (fun v28 g28 => ?_)
 refine sg rfl rfl rfl (fun g => (yLdB (g28.1 g) isAgg3 (hS.at _) rfl)) (fun v29 g29 => ?_)
 refine sgc hS rfl rfl rfl call32 (fun g => (.cons (g29.1 g) e2)) (fun g => c_outS) ?_; clear hS; intro v30 w hS g30
 refine sv (yOr rfl rfl (fun hB => (g30.1 hB))) <| vM ?_
 refine sg rfl rfl rfl (fun g => (fa118_3 rfl)) (fun v33 g33 => ?_)
 refine sg rfl rfl rfl (fun g => (yLdB (g33.1 g) isAgg3 (hS.at _) rfl)) (fun v34 g34 => ?_)
 refine sgc hS rfl rfl rfl call32 (fun g => (.cons (g34.1 g) e2)) (fun g => c_outS) ?_; clear hS; intro v35 w hS g35
 refine sv (yOr rfl rfl (fun hB => (g35.1 hB))) <| vA <| nil <| cwQ ?_
 refine cond rfl (fun c23 => ?_) (fun c23 => ?_)
 ·
  refine seq <| region <| vA <| nil <| cwQ ?_
  refine wp_ret (blockR (thenR ?_))
  exact retV (res1 rfl (eqI (by unfold cE; rw [if_neg (by rw [c11]; decide), if_neg (by rw [c16]; decide), if_pos (show ctrB (ctr t.ctrs i) = true from c23)]))) hS.ext
 refine skip <| cwQ <| seq <| region <| vA <| nil <| cwQ <| wp_ret ?_
 exact retV (res1 rfl (eqI (by unfold cE; rw [if_neg (by rw [c11]; decide), if_neg (by rw [c16]; decide), if_neg (by rw [show ctrB (ctr t.ctrs i) = false from c23]; decide)]))) hS.ext
theorem c_GrowI {m : Nat} {w0 : World} (hm : m ≤ 1000) : CE Tryz.prog 130 #[.slice none 0 0, .int .i64 (m : Int)] w0 (fun u w' => St w0 w' [rowI u 3 1 0 []]) := by
 refine enQ func130 rfl ntmps130 rfl fun hS => ?_
 refine seq <| region <| vA <| nil <| cwQ <| seq <| seq <| region <| vM <| sv (yLss rfl rfl) <| nil <| cwQ ?_
 refine cond rfl ?_ ?_ <;> intro c6 <;> simp only [BS, ne_eq] at c6
 ·
  exfalso; omega
 refine skip <| cwQ <| seq <| seq <| region <| vM <| vM <| sv (yCap rfl underlying30) <| vM <| sv (yLen rfl underlying30) <| sv (ySubQ rfl rfl) <| sv (Y.to (ySubQ rfl rfl) (congrArg (Value.int .i64) (show (m : Int) - (((0 : Nat) : Int) - ((0 : Nat) : Int)) = (m : Int) by omega))) <| vA ?_
 refine nil <| cwQ <| seq <| region <| vM <| sv (yGtr rfl rfl) <| nil <| cwQ ?_
 refine cond rfl ?_ ?_ <;> intro c16 <;> simp only [BS, ne_eq] at c16
 ·
  have hm0 : 0 < m := by omega
  refine region <| vM <| vM <| sv (yCap rfl underlying30) <| sv (yTo (i := 0) rfl rfl underlying30 sizeOf3 (by omega)) <| vM ?_
  refine sappZ (bytes := 8) hS rfl rfl underlying30 underlying3 ti3 rfl rfl rfl rfl hm0 (by omega) (by decide) ?_; clear hS; intro b22 cap22 w hcap hS
  refine vM <| sv (yLen rfl underlying30) <| sv (yTo (i := 0) rfl rfl underlying30 sizeOf3 (by omega)) <| vA <| nil <| cwQ <| seq <| region <| vM <| vA <| nil <| cwQ <| wp_ret ?_
  refine retQ (res1 rfl rfl) ?_
  exact hS
 refine skip <| cwQ <| seq <| region <| vM <| vA <| nil <| cwQ <| wp_ret <| retQ (res1 rfl rfl) ?_
 exact hS.nilrow 3 1
theorem c_ConcatI {ls : List (List Int)} {v : Value} {w0 : World} (hsl : Sl w0 1 RRow v ls) (hn : ls.length ≤ 4) (hln : ∀ l ∈ ls, l.length ≤ 200) : CE Tryz.prog 94 #[v] w0 (fun u w' => St w0 w' [rowI u 3 1 ls.flatten.length (ls.flatten.flatMap Bx.encI)]) := by
 obtain ⟨a, cap, rfl, hcap, hmx, hel⟩ := id hsl
 have hfl := flat_bd hn hln
 refine enQ func94 rfl ntmps94 rfl fun hS => ?_
 refine seq <| region <| vA <| nil <| cwQ <| seq <| region <| vA <| nil <| cwQ <| seq <| seq <| region ?_
 refine vM <| sv (yLen rfl underlying119) <| vM <| nil <| cwQ <| block <| loop (fun f w zz => ∃ (k : Nat), f 0 = .slice a ls.length cap ∧ f 3 = .int .i64 ((ls.take k).flatten.length : Int) ∧ f 9 = .slice a ls.length cap ∧ f 10 = .int .i64 (ls.length : Int) ∧ f 11 = .int .i64 (k : Int) ∧ StX [] w0 w [] ∧ (k ≤ ls.length) ∧ zz = ls.length - k) _ ⟨_, rfl, 0, rfl, rfl, rfl, rfl, rfl, hS, (Nat.zero_le _), rfl⟩ ?_
 clear hS
 rintro f w _ ⟨k, h0, h3, h9, h10, h11, hS, hk, rfl⟩
 refine seq <| region <| sv (yLss h11 h10) <| nil <| cwQ <| seq ?_
 refine cond rfl ?_ ?_ <;> intro c12 <;> simp only [BS, ne_eq] at c12
 ·
  obtain ⟨x, hx, hd⟩ := drop_of (l := ls) (k := k) (by omega)
  obtain ⟨b, o, cs, ha, hlen, hcs, hR⟩ := hel k (by omega)
  obtain rfl : x = ls[k] := (List.getElem?_eq_some_iff.1 hx).2.symm
  generalize ls[k] = x at hx hd hR
  obtain ⟨v0, rfl, hxs⟩ := hR
  obtain ⟨ax, capx, rfl, hxcap, hxmx, hxel⟩ := id hxs
  have hxl := hln x (List.mem_of_getElem? hx)
  have hft := flat_take hn hln k
  refine skip <| cwQ <| seq <| block <| seq <| region <| sv (yIxQ h9 ha h11 runUnderlying119 sizeOf30) <| sv (yLd rfl isAgg30 (hcs.ext hS.ext).one) <| vA <| nil <| cwQ <| seq <| region ?_
  refine sv (yMove h3) <| vM <| sv (yLen rfl underlying30) <| sv (yAddQ rfl rfl) <| vA <| nil <| cwQ <| seq <| region <| vM <| sv (yLss rfl rfl) <| nil <| cwQ ?_
  refine cond rfl ?_ ?_ <;> intro c20 <;> simp only [BS, ne_eq] at c20
  ·
   exfalso; omega
  refine skip <| cwQ <| region <| sv (yAddQ h11 rfl) <| vM <| nil ?_
  exact ⟨_, _, rfl, ⟨k + 1, h0, (rfl.trans (congrArg (Value.int .i64) (by rw [take_snoc hx]; simp))), h9, h10, rfl, hS, (by omega), rfl⟩, by omega⟩
 obtain rfl : k = ls.length := by omega
 rw [List.take_length] at h3
 refine exit <| cwQ <| seq <| region <| sv (yMove h3) ?_
 refine scall call130 e2 (c_GrowI (m := ls.flatten.length) (by omega)) ?_
 rintro gv w hM; replace hS := hS.call1 hM; clear hM
 refine vA <| nil <| cwQ <| seq <| seq <| region <| sv (yMove h0) <| sv (yLen rfl underlying119) <| vM <| nil <| cwQ <| block <| loop (fun f w zz => ∃ (k : Nat) (cv : Value), f 6 = cv ∧ f 25 = .slice a ls.length cap ∧ f 26 = .int .i64 (ls.length : Int) ∧ f 27 = .int .i64 (k : Int) ∧ StX [] w0 w [rowI (cv) 3 1 (ls.take k).flatten.length ((ls.take k).flatten.flatMap Bx.encI)] ∧ (k ≤ ls.length) ∧ zz = ls.length - k) _ ⟨_, rfl, 0, _, rfl, rfl, rfl, rfl, hS, (Nat.zero_le _), rfl⟩ ?_
 clear hS
 rintro f w _ ⟨k, cv, h6, h25, h26, h27, hS, hk, rfl⟩
 refine seq <| region <| sv (yLss h27 h26) <| nil <| cwQ <| seq ?_
 refine cond rfl ?_ ?_ <;> intro c28 <;> simp only [BS, ne_eq] at c28
 ·
  obtain ⟨x, hx, hd⟩ := drop_of (l := ls) (k := k) (by omega)
  obtain ⟨b, o, cs, ha, hlen, hcs, hR⟩ := hel k (by omega)
  obtain rfl : x = ls[k] := (List.getElem?_eq_some_iff.1 hx).2.symm
  generalize ls[k] = x at hx hd hR
  obtain ⟨v0, rfl, hxs⟩ := hR
  obtain ⟨ax, capx, rfl, hxcap, hxmx, hxel⟩ := id hxs
  have hxl := hln x (List.mem_of_getElem? hx)
  have hft := flat_take hn hln k
  obtain ⟨acv, ccv, rfl⟩ := row_shape (hS.row cv)
  refine skip <| cwQ <| seq <| block <| seq <| region <| sv (yIxQ h25 ha h27 runUnderlying119 sizeOf30) <| sv (yLd rfl isAgg30 (hcs.ext hS.ext).one) <| vA <| nil <| cwQ <| region <| sv (yMove h6) ?_
  refine vM ?_
  refine sappS (bytes := 8) (size := 1) hS rfl rfl underlying30 ti3 rfl rfl rfl rfl (by decide) sizeOf3 (fun hh => by obtain ⟨bd, od, e1, e2⟩ := ints_news hxs hh; exact ⟨bd, od, e1, e2.ext hS.ext⟩) (by rw [flat_len encI_len]) (ints_one x) (by omega) (by omega) ?_; clear hS; intro v33 w hS
  refine vA <| nil <| cwQ <| region <| sv (yAddQ h27 rfl) <| vM <| nil ?_
  exact ⟨_, _, rfl, ⟨k + 1, _, rfl, h25, h26, rfl, (by rw [take_snoc hx, List.flatten_append, List.length_append, List.flatMap_append, List.flatten_singleton]; exact hS), (by omega), rfl⟩, by omega⟩
 obtain rfl : k = ls.length := by omega
 rw [List.take_length] at hS
 refine exit <| cwQ <| seq <| region <| sv (yMove h6) <| vA <| nil <| cwQ <| wp_ret <| retQ (res1 rfl rfl) ?_
 exact hS
theorem c_foreS1 {l : List Int} {v : Value} {w0 : World} (hl : RRow w0 [v] l) : CV Tryz.prog 92 #[v] w0 (.bool (outB l.length 1 200)) := by
 obtain ⟨v, e, hl⟩ := hl
 obtain ⟨rfl⟩ := List.cons.inj e |>.1
 obtain ⟨a, cap, rfl, hcap, hmx, hel⟩ := id hl
 refine enQ func92 rfl ntmps92 rfl fun hS => ?_
 refine seq <| region <| vA <| nil <| cwQ <| seq <| region <| vM <| sv (yLen rfl underlying30) ?_
 refine scV hS call32 e3 c_outS fun w hS => ?_
 refine vA <| nil <| cwQ <| wp_ret ?_
 exact rvQ hS
theorem c_foreS2 {l : List Int} {v : Value} {f : Fct} {am : Option Addr} {cm b : Nat} {T : TypeId} {w0 : World} (hl : RRow w0 [v] l) (hM : Sl w0 1 RRow (.slice am f.members.length cm) f.members) (hm : 0 < f.members.length) (hb : w0.heap[b]? = some (.cells [.int .i64 f.centre, .int .i64 f.issued, .int .i64 f.frm, .slice am f.members.length cm].toArray T (0, 0))) : CV Tryz.prog 93 #[v, ptQ b] w0 (.bool (decide ((l.length : Int) ≠ (f.members.getD 0 []).length))) := by
 obtain ⟨v, e, hl⟩ := hl
 obtain ⟨rfl⟩ := List.cons.inj e |>.1
 obtain ⟨a, cap, rfl, hcap, hmx, hel⟩ := id hl
 obtain ⟨bx, ox, cx, hax, hlx, hcx, hRx, -⟩ := sl_at hM (show f.members[0]? = some (f.members.getD 0 []) by simp [hm])
 obtain ⟨v0, rfl, hv0⟩ := hRx
 obtain ⟨a0, cap0, rfl, -⟩ := id hv0
 refine enQ func93 rfl ntmps93 rfl fun hS => ?_
 refine seq <| region <| vA <| nil <| cwQ <| seq <| region <| vM <| sv (yLen rfl underlying30) <| sv (fa121_3 rfl) <| sv (yLdB rfl isAgg119 (hS.ext.get hb) rfl) <| sv (yIxQ rfl hax (show _ = Value.int .i64 ((0 : Nat) : Int) from rfl) runUnderlying119 sizeOf30) <| sv (yLd rfl isAgg30 (hcx.ext hS.ext).one) ?_
 refine sv (yLen rfl underlying30) <| sv (yNeq rfl rfl) <| vA <| nil <| cwQ <| wp_ret ?_
 exact rvQ hS
theorem c_foreS3 {a : Int} {w0 : World} : CV Tryz.prog 95 #[.int .i64 a] w0 (.bool (outB a (-10000) 10000)) := by
 refine enQ func95 rfl ntmps95 rfl fun hS => ?_
 refine seq <| region <| vA <| nil <| cwQ <| seq <| region <| vM ?_
 refine scV hS call32 e3 c_outS fun w hS => ?_
 refine vA <| nil <| cwQ <| wp_ret ?_
 exact rvQ hS
theorem c_foreS4 {x f : Fct} {cs : List Value} {am : Option Addr} {cm b : Nat} {T : TypeId} {w0 : World} (hx : RFct w0 cs x) (hb : w0.heap[b]? = some (.cells [.int .i64 f.centre, .int .i64 f.issued, .int .i64 f.frm, .slice am f.members.length cm].toArray T (0, 0))) : CV Tryz.prog 97 #[.agg cs.toArray, ptQ b] w0 (.bool (decide (x.centre = f.centre) && decide (x.issued = f.issued))) := by
 obtain ⟨xv, rfl, -⟩ := id hx
 refine enQ func97 rfl ntmps97 rfl fun hS => ?_
 refine seq <| region ?_
 refine sbox hS rfl rfl fun b2 w hS => ?_
 refine vA <| nil <| cwQ <| seq <| region <| sv (fa121_0 rfl) <| vL rfl isAgg3 hS rfl <| sv (fa121_0 rfl) <| sv (yLdB rfl isAgg3 (hS.ext.get hb) rfl) <| sv (yEql rfl rfl) <| vM ?_
 refine sg rfl rfl rfl (fun g => (fa121_1 rfl)) (fun v10 g10 => ?_)
 refine sg rfl rfl rfl (fun g => (yLdB (g10.1 g) isAgg3 (hS.at _) rfl)) (fun v11 g11 => ?_)
 refine sg rfl rfl rfl (fun g => (fa121_1 rfl)) (fun v12 g12 => ?_)
 refine sg rfl rfl rfl (fun g => (yLdB (g12.1 g) isAgg3 (hS.ext.get hb) rfl)) (fun v13 g13 => ?_)
 refine sg rfl rfl rfl (fun g => (yEql (g11.1 g) (g13.1 g))) (fun v14 g14 => ?_)
 refine sv (yAnd rfl (fun hB => (g14.1 hB)) rfl) <| vA <| nil <| cwQ <| wp_ret ?_
 exact rvQ hS
theorem c_foreS {t : Sgt} {cs : List Value} {i : Nat} {w0 : World} (h : RSgt w0 cs t) (hi : i < t.fcs.length) : CV Tryz.prog 61 #[.agg cs.toArray, .int .i64 (i : Int)] w0 (.int .i64 (fE t.ctrs.length t.fcs i)) := by
 obtain ⟨cv, gv, tv, fv, rfl, hT, hG, hw64, hf64, hk64, hC, hF, hl64, hm64, hr64, hq64⟩ := id h
 obtain ⟨ag, cg, rfl, hgcap, hgmx, hgel⟩ := id hG
 obtain ⟨ak, ck, rfl, hkcap, hkmx, hkel⟩ := id hC
 obtain ⟨ae, ce, rfl, hecap, hemx, heel⟩ := id hF
 obtain ⟨bx, ox, cx, hax, hlx, hcx, hRx, -⟩ := sl_at hF (fct_get hi)
 obtain ⟨mv, rfl, hf1, hf2, hf3, hM⟩ := id hRx
 obtain ⟨am, cm, rfl, hmcap, hmmx, hmel⟩ := id hM
 refine enQ func61 rfl ntmps61 rfl fun hS => ?_
 refine seq <| region ?_
 refine sbox hS rfl rfl fun b2 w hS => ?_
 refine vA <| nil <| cwQ <| seq <| region <| sv (fa29_6 rfl) <| vL rfl isAgg27 hS rfl <| vM <| sv (yIxQ rfl hax rfl runUnderlying27 sizeOf121) <| sv (yLdA rfl isAgg121 sizeOf121 (hcx.ext hS.ext) rfl) ?_
 refine salloc hS zeroValue121 rfl fun b5 w hS => ?_
 refine sS hS rfl sizeOf121 fun w hS => ?_
 refine nil <| cwQ <| seq <| block <| seq <| region <| sv (fa121_0 rfl) <| vL rfl isAgg3 hS rfl <| sv (fa29_5 rfl) <| vL rfl isAgg26 hS rfl <| sv (yLen rfl underlying26) <| sv (ySubQ rfl rfl) ?_
 refine scV hS call32 e3 c_outS fun w hS => ?_
 refine vA <| nil <| cwQ ?_
 refine cond rfl (fun c11 => ?_) (fun c11 => ?_)
 ·
  refine seq <| region <| vA <| nil <| cwQ ?_
  refine wp_ret (blockR (thenR ?_))
  exact retV (res1 rfl (eqI (by unfold fE; rw [if_pos c11]))) hS.ext
 refine seq <| region <| sv (fa121_1 rfl) <| vL rfl isAgg3 hS rfl ?_
 refine scV hS call32 e3 c_outS fun w hS => ?_
 refine vM ?_
 refine sg rfl rfl rfl (fun g => (fa121_2 rfl)) (fun v24 g24 => ?_)
 refine sg rfl rfl rfl (fun g => (yLdB (g24.1 g) isAgg3 (hS.at _) rfl)) (fun v25 g25 => ?_)
 refine sgc hS rfl rfl rfl call32 (fun g => (.cons (g25.1 g) e2)) (fun g => c_outS) ?_; clear hS; intro v26 w hS g26
 refine sv (yOr rfl rfl (fun hB => (g26.1 hB))) <| vA <| nil <| cwQ ?_
 refine cond rfl (fun c19 => ?_) (fun c19 => ?_)
 ·
  refine seq <| region <| vA <| nil <| cwQ ?_
  refine wp_ret (blockR (thenR ?_))
  exact retV (res1 rfl (eqI (by unfold fE; rw [if_neg (by rw [c11]; decide), if_pos c19]))) hS.ext
 refine seq <| region <| sv (fa121_3 rfl) <| vL rfl isAgg119 hS rfl <| sv (yLen rfl underlying119) ?_
 refine scV hS call32 e3 c_outS fun w hS => ?_
 refine vM ?_
 refine sg rfl rfl rfl (fun g => (fa121_3 rfl)) (fun v34 g34 => ?_)
 refine sg rfl rfl rfl (fun g => (yLdB (g34.1 g) isAgg119 (hS.at _) rfl)) (fun v35 g35 => ?_)
 refine sgc hS rfl rfl rfl call91 (fun g => (.cons (g35.1 g) e1)) (fun g => (c_ContainsRow (p := fun l => outB l.length 1 200) (cl := []) (hM.ext RRow.stays hS.ext) call92 (fun x x0 w hx e hR => c_foreS1 hR))) ?_; clear hS; intro v36 w hS g36
 refine sv (yOr rfl rfl (fun hB => (g36.1 hB))) <| vA <| nil <| cwQ ?_
 refine cond rfl (fun c28 => ?_) (fun c28 => ?_)
 ·
  refine seq <| region <| vA <| nil <| cwQ ?_
  refine wp_ret (blockR (thenR ?_))
  exact retV (res1 rfl (eqI (by unfold fE; rw [if_neg (by rw [c11]; decide), if_neg (by rw [c19]; decide), if_pos (show longM (fct t.fcs i) = true from c28)]))) hS.ext
 have hlm : longM (fct t.fcs i) = false := c28
 obtain ⟨hm1, hm2⟩ := longM_ok hlm
 refine seq <| region <| sv (fa121_3 rfl) <| vL rfl isAgg119 hS rfl <| sv (yFn e1) ?_
 refine scV hS call91 e2 (c_ContainsRow (p := fun l => decide ((l.length : Int) ≠ ((fct t.fcs i).members.getD 0 []).length)) (cl := [ptQ b5]) (hM.ext RRow.stays hS.ext) call93 (fun x x0 w hx e hR => c_foreS2 hR (hM.ext RRow.stays (hS.ext.trans e)) (by omega) (e.get (hS.at b5)))) fun w hS => ?_
 refine vA <| nil <| cwQ ?_
 refine cond rfl (fun c38 => ?_) (fun c38 => ?_)
 ·
  refine seq <| region <| vA <| nil <| cwQ ?_
  refine wp_ret (blockR (thenR ?_))
  exact retV (res1 rfl (eqI (by unfold fE; rw [if_neg (by rw [c11]; decide), if_neg (by rw [c19]; decide), if_neg (by rw [show longM (fct t.fcs i) = false from c28]; decide), if_pos (show sameM (fct t.fcs i) = true from c38)]))) hS.ext
 refine seq <| region <| sv (fa121_3 rfl) <| vL rfl isAgg119 hS rfl ?_
 refine scall call94 e1 (c_ConcatI (hM.ext RRow.stays hS.ext) hm1.2 (fun l hl => (hm2 l hl).2)) ?_
 rintro fv w hM2; replace hS := hS.call1 hM2; clear hM2
 refine scV hS call51 e2 (c_ContainsFuncInt (l := (fct t.fcs i).members.flatten) (p := fun v => outB v (-10000) 10000) (cl := []) (sl_ints (hS.row fv) rfl (flat_I64 (hM.ext RRow.stays hS.ext))) call95 (fun x cs w _ _ _ => c_foreS3)) fun w hS => ?_
 refine vA <| nil <| cwQ ?_
 refine cond rfl (fun c43 => ?_) (fun c43 => ?_)
 ·
  refine seq <| region <| vA <| nil <| cwQ ?_
  refine wp_ret (blockR (thenR ?_))
  exact retV (res1 rfl (eqI (by unfold fE; rw [if_neg (by rw [c11]; decide), if_neg (by rw [c19]; decide), if_neg (by rw [show longM (fct t.fcs i) = false from c28]; decide), if_neg (by rw [show sameM (fct t.fcs i) = false from c38]; decide), if_pos (show farM (fct t.fcs i) = true from c43)]))) hS.ext
 refine seq <| region <| sv (fa29_6 rfl) <| vL rfl isAgg27 hS rfl <| vM <| sv (yTo rfl rfl underlying27 sizeOf121 (by omega)) <| sv (yFn e1) ?_
 refine scV hS call96 e2 (c_ContainsFct (l := t.fcs.take i) (p := fun x => decide (x.centre = (fct t.fcs i).centre) && decide (x.issued = (fct t.fcs i).issued)) (cl := [ptQ b5]) ((hF.take (by omega)).ext RFct.stays hS.ext) call97 (fun x cs w hx e hR => c_foreS4 hR (e.get (hS.at b5)))) fun w hS => ?_
 refine vA <| nil <| cwQ ?_
 refine cond rfl (fun c48 => ?_) (fun c48 => ?_)
 ·
  refine seq <| region <| vA <| nil <| cwQ ?_
  refine wp_ret (blockR (thenR ?_))
  exact retV (res1 rfl (eqI (by unfold fE; rw [if_neg (by rw [c11]; decide), if_neg (by rw [c19]; decide), if_neg (by rw [show longM (fct t.fcs i) = false from c28]; decide), if_neg (by rw [show sameM (fct t.fcs i) = false from c38]; decide), if_neg (by rw [show farM (fct t.fcs i) = false from c43]; decide), if_pos (show twiceF t.fcs i = true from c48)]))) hS.ext
 refine skip <| cwQ <| seq <| region <| vA <| nil <| cwQ <| wp_ret ?_
 exact retV (res1 rfl (eqI (by unfold fE; rw [if_neg (by rw [c11]; decide), if_neg (by rw [c19]; decide), if_neg (by rw [show longM (fct t.fcs i) = false from c28]; decide), if_neg (by rw [show sameM (fct t.fcs i) = false from c38]; decide), if_neg (by rw [show farM (fct t.fcs i) = false from c43]; decide), if_neg (by rw [show twiceF t.fcs i = false from c48]; decide)]))) hS.ext
theorem c_CheckS {t : Sgt} {cs : List Value} {w0 : World} (h : RSgt w0 cs t) : CV Tryz.prog 31 #[.agg cs.toArray] w0 (.tuple #[.int .i64 (checkS t).1, .int .i64 (checkS t).2.1, .int .i64 (checkS t).2.2]) := by
 obtain ⟨cv, gv, tv, fv, rfl, hT, hG, hw64, hf64, hk64, hC, hF, hl64, hm64, hr64, hq64⟩ := id h
 obtain ⟨ag, cg, rfl, hgcap, hgmx, hgel⟩ := id hG
 obtain ⟨ak, ck, rfl, hkcap, hkmx, hkel⟩ := id hC
 obtain ⟨ae, ce, rfl, hecap, hemx, heel⟩ := id hF
 refine enQ func31 rfl ntmps31 rfl fun hS => ?_
 refine seq <| region ?_
 refine sbox hS rfl rfl fun b1 w hS => ?_
 refine vA <| vA <| vA <| nil <| cwQ <| seq <| seq <| region <| sv (fa29_4 rfl) <| vL rfl isAgg3 hS rfl ?_
 refine scV hS call32 e3 c_outS fun w hS => ?_
 refine nil <| cwQ ?_
 refine cond rfl (fun c9 => ?_) (fun c9 => ?_)
 ·
  refine seq <| region <| vA <| vA <| vA <| nil <| cwQ ?_
  have hfin : checkS t = (1, 0, 7) := by unfold checkS; rw [if_pos c9]
  refine wp_ret (thenR ?_)
  exact retV (res3 rfl (fstI hfin) (thd1I hfin) (thd2I hfin)) hS.ext
 refine skip <| cwQ <| seq <| seq <| region <| sv (fa29_0 rfl) <| sv (yLdBA rfl isAgg24 sizeOf24 (hS.at _) rfl rfl) <| sv (fa29_3 rfl) <| vL rfl isAgg3 hS rfl <| sv (fa29_4 rfl) <| vL rfl isAgg3 hS rfl ?_
 refine scall call33 e3 (c_Levels (hT.ext hS.ext)) ?_
 rintro _ w ⟨lvv, rfl, hM⟩; replace hS := (hS.call1 hM).sub (.cons _ lrQ); clear hM
 refine vM <| sv (yExt rfl rfl) <| sv (yExt rfl rfl) <| vA <| nil <| cwQ <| seq <| region <| vM <| sv (yNeq rfl rfl) <| nil <| cwQ ?_
 refine cond rfl ?_ ?_ <;> intro c21 <;> simp only [BS, ne_eq] at c21
 ·
  refine seq <| region <| vM <| vA <| vA <| vA <| nil <| cwQ ?_
  have hfin : checkS t = (1, 0, levelsE t.table t.frm t.ticks) := by unfold checkS; rw [if_neg (by rw [c9]; decide), if_pos c21]
  refine wp_ret (thenR ?_)
  exact retV (res3 rfl (fstI hfin) (thd1I hfin) (thd2I hfin)) hS.ext
 refine skip <| cwQ <| seq <| seq <| region <| sv (yLdBA rfl isAgg29 sizeOf29 (hS.at _) rfl rfl) ?_
 refine scV hS call59 e1 (c_gausS (h.ext hS.ext)) fun w hS => ?_
 refine vM <| sv (yExt rfl rfl) <| sv (yExt rfl rfl) <| vA <| vA <| nil <| cwQ <| seq <| region <| vM <| sv (yNeq rfl rfl) <| nil <| cwQ ?_
 refine cond rfl ?_ ?_ <;> intro c29 <;> simp only [BS, ne_eq] at c29
 ·
  refine seq <| region <| vM <| vM <| vA <| vA <| vA <| nil <| cwQ ?_
  have hfin : checkS t = (2, gausE t) := by unfold checkS; rw [if_neg (by rw [c9]; decide), if_neg (fun k => k c21), if_pos c29]
  refine wp_ret (thenR ?_)
  exact retV (res3 rfl (fstI hfin) (thd1I hfin) (thd2I hfin)) hS.ext
 refine skip <| cwQ <| seq <| block <| seq <| region <| sv (fa29_5 rfl) <| vL rfl isAgg26 hS rfl <| sv (yLen rfl underlying26) <| sv (yGtr rfl rfl) <| vM ?_
 refine sg rfl rfl rfl (fun g => (fa29_6 rfl)) (fun v38 g38 => ?_)
 refine sg rfl rfl rfl (fun g => (yLdB (g38.1 g) isAgg27 (hS.at _) rfl)) (fun v39 g39 => ?_)
 refine sg rfl rfl rfl (fun g => (yLen (g39.1 g) underlying27)) (fun v40 g40 => ?_)
 refine sg rfl rfl rfl (fun g => (yGtr (g40.1 g) rfl)) (fun v41 g41 => ?_)
 refine sv (yOr rfl rfl (fun hB => (g41.1 hB))) <| vA <| nil <| cwQ ?_
 refine cond rfl ?_ ?_ <;> intro c32 <;> simp only [BS, ne_eq] at c32
 ·
  refine seq <| region <| vA <| vA <| vA <| nil <| cwQ ?_
  have hfin : checkS t = (3, 0, 3) := by unfold checkS; rw [if_neg (by rw [c9]; decide), if_neg (fun k => k c21), if_neg (fun k => k c29), if_pos c32]
  refine wp_ret (blockR (thenR ?_))
  exact retV (res3 rfl (fstI hfin) (thd1I hfin) (thd2I hfin)) hS.ext
 refine seq <| region <| sv (fa29_7 rfl) <| vL rfl isAgg3 hS rfl ?_
 refine scV hS call32 e3 c_outS fun w hS => ?_
 refine vM ?_
 refine sg rfl rfl rfl (fun g => (fa29_8 rfl)) (fun v48 g48 => ?_)
 refine sg rfl rfl rfl (fun g => (yLdB (g48.1 g) isAgg3 (hS.at _) rfl)) (fun v49 g49 => ?_)
 refine sgc hS rfl rfl rfl call32 (fun g => (.cons (g49.1 g) e2)) (fun g => c_outS) ?_; clear hS; intro v50 w hS g50
 refine sv (yOr rfl rfl (fun hB => (g50.1 hB))) <| vM ?_
 refine sg rfl rfl rfl (fun g => (fa29_9 rfl)) (fun v53 g53 => ?_)
 refine sg rfl rfl rfl (fun g => (yLdB (g53.1 g) isAgg3 (hS.at _) rfl)) (fun v54 g54 => ?_)
 refine sgc hS rfl rfl rfl call32 (fun g => (.cons (g54.1 g) e2)) (fun g => c_outS) ?_; clear hS; intro v55 w hS g55
 refine sv (yOr rfl rfl (fun hB => (g55.1 hB))) <| vM ?_
 refine sg rfl rfl rfl (fun g => (fa29_10 rfl)) (fun v58 g58 => ?_)
 refine sg rfl rfl rfl (fun g => (yLdB (g58.1 g) isAgg3 (hS.at _) rfl)) (fun v59 g59 => ?_)
 refine sg rfl rfl rfl (fun g => (fa29_5 rfl)) (fun v60 g60 => ?_)
 refine sg rfl rfl rfl (fun g => (yLdB (g60.1 g) isAgg26 (hS.at _) rfl)) (fun v61 g61 => ?_)
 refine sg rfl rfl rfl (fun g => (yLen (g61.1 g) underlying26)) (fun v62 g62 => ?_)
 refine sgc hS rfl rfl rfl call32 (fun g => (.cons (g59.1 g) (.cons rfl (.cons (g62.1 g) .nil)))) (fun g => c_outS) ?_; clear hS; intro v63 w hS g63
 refine sv (yOr rfl rfl (fun hB => (g63.1 hB))) <| vA <| nil <| cwQ ?_
 refine cond rfl (fun c43 => ?_) (fun c43 => ?_)
 ·
  refine seq <| region <| vA <| vA <| vA <| nil <| cwQ ?_
  have hfin : checkS t = (3, 0, 7) := by unfold checkS; rw [if_neg (by rw [c9]; decide), if_neg (fun k => k c21), if_neg (fun k => k c29), if_neg (fun k => k.elim c32.1 c32.2), if_pos (show numsS t = true from c43)]
  refine wp_ret (blockR (thenR ?_))
  exact retV (res3 rfl (fstI hfin) (thd1I hfin) (thd2I hfin)) hS.ext
 refine skip <| cwQ <| seq <| seq <| region <| sv (fa29_5 rfl) <| vL rfl isAgg26 hS rfl <| sv (yLen rfl underlying26) <| vM <| nil <| cwQ <| block <| loop (fun f w zz => ∃ (k : Nat), f 1 = ptQ b1 ∧ f 66 = .slice ak t.ctrs.length ck ∧ f 67 = .int .i64 (t.ctrs.length : Int) ∧ f 68 = .int .i64 (k : Int) ∧ StX [] w0 w [blk b1 (scQ t cv ag ak ae cg ck ce) 29] ∧ (k ≤ t.ctrs.length) ∧ (firstN (cE t.ctrs) t.ctrs.length 0 = firstN (cE t.ctrs) (t.ctrs.length - k) k) ∧ zz = t.ctrs.length - k) _ ⟨_, rfl, 0, rfl, rfl, rfl, rfl, hS, (Nat.zero_le _), (rfl), rfl⟩ ?_
 clear hS
 rintro f w _ ⟨k, h1, h66, h67, h68, hS, hk, hI, rfl⟩
 refine seq <| region <| sv (yLss h68 h67) <| nil <| cwQ <| seq ?_
 refine cond rfl ?_ ?_ <;> intro c69 <;> simp only [BS, ne_eq] at c69
 ·
  refine skip <| cwQ <| seq <| block <| seq <| region <| sv (yMove h68) <| vA <| nil <| cwQ <| seq <| region <| sv (yLdBA h1 isAgg29 sizeOf29 (hS.at _) rfl rfl) ?_
  refine vM ?_
  refine scV hS call60 e2 (c_centS (h.ext hS.ext) (by omega)) fun w hS => ?_
  refine vA <| nil <| cwQ <| seq <| region <| vM <| sv (yNeq rfl rfl) <| nil <| cwQ ?_
  refine cond rfl ?_ ?_ <;> intro c75 <;> simp only [BS, ne_eq] at c75
  ·
   refine seq <| region <| vM <| vM <| vA <| vA <| vA <| nil <| cwQ ?_
   have hN : firstN (cE t.ctrs) t.ctrs.length 0 = ((k : Int), cE t.ctrs k) := by rw [hI, firstN_at (by omega) c75]
   have hfin : checkS t = (4, (k : Int), cE t.ctrs k) := by unfold checkS; rw [if_neg (by rw [c9]; decide), if_neg (fun k => k c21), if_neg (fun k => k c29), if_neg (fun k => k.elim c32.1 c32.2), if_neg (by rw [show numsS t = false from c43]; decide), if_pos (by rw [hN]; exact c75), hN]
   refine wp_ret (blockR (thenR (thenR (blockR (thenR ?_)))))
   exact retV (res3 rfl (fstI hfin) (thd1I hfin) (thd2I hfin)) hS.ext
  refine skip <| cwQ <| region <| sv (yAddQ h68 rfl) <| vM <| nil ?_
  exact ⟨_, _, rfl, ⟨k + 1, h1, h66, h67, rfl, hS, (by omega), (by rw [hI]; exact firstN_go (by omega) c75), rfl⟩, by omega⟩
 obtain rfl : k = t.ctrs.length := by omega
 have hec : (firstN (cE t.ctrs) t.ctrs.length 0).2 = 0 := by rw [hI, Nat.sub_self]; rfl
 clear hI
 refine exit <| cwQ <| seq <| seq <| region <| sv (fa29_6 h1) <| vL rfl isAgg27 hS rfl <| sv (yLen rfl underlying27) <| vM <| nil <| cwQ <| block <| loop (fun f w zz => ∃ (k : Nat), f 1 = ptQ b1 ∧ f 80 = .slice ae t.fcs.length ce ∧ f 81 = .int .i64 (t.fcs.length : Int) ∧ f 82 = .int .i64 (k : Int) ∧ StX [] w0 w [blk b1 (scQ t cv ag ak ae cg ck ce) 29] ∧ (k ≤ t.fcs.length) ∧ (firstN (fE t.ctrs.length t.fcs) t.fcs.length 0 = firstN (fE t.ctrs.length t.fcs) (t.fcs.length - k) k) ∧ zz = t.fcs.length - k) _ ⟨_, rfl, 0, h1, rfl, rfl, rfl, hS, (Nat.zero_le _), (rfl), rfl⟩ ?_
 clear hS
 rintro f w _ ⟨k, h1, h80, h81, h82, hS, hk, hI, rfl⟩
 refine seq <| region <| sv (yLss h82 h81) <| nil <| cwQ <| seq ?_
 refine cond rfl ?_ ?_ <;> intro c83 <;> simp only [BS, ne_eq] at c83
 ·
  refine skip <| cwQ <| seq <| block <| seq <| region <| sv (yMove h82) <| vA <| nil <| cwQ <| seq <| region <| sv (yLdBA h1 isAgg29 sizeOf29 (hS.at _) rfl rfl) ?_
  refine vM ?_
  refine scV hS call61 e2 (c_foreS (h.ext hS.ext) (by omega)) fun w hS => ?_
  refine vA <| nil <| cwQ <| seq <| region <| vM <| sv (yNeq rfl rfl) <| nil <| cwQ ?_
  refine cond rfl ?_ ?_ <;> intro c89 <;> simp only [BS, ne_eq] at c89
  ·
   refine seq <| region <| vM <| vM <| vA <| vA <| vA <| nil <| cwQ ?_
   have hN : firstN (fE t.ctrs.length t.fcs) t.fcs.length 0 = ((k : Int), fE t.ctrs.length t.fcs k) := by rw [hI, firstN_at (by omega) c89]
   have hfin : checkS t = (5, (k : Int), fE t.ctrs.length t.fcs k) := by unfold checkS; rw [if_neg (by rw [c9]; decide), if_neg (fun k => k c21), if_neg (fun k => k c29), if_neg (fun k => k.elim c32.1 c32.2), if_neg (by rw [show numsS t = false from c43]; decide), if_neg (fun k => k hec), if_pos (by rw [hN]; exact c89), hN]
   refine wp_ret (blockR (thenR (thenR (blockR (thenR ?_)))))
   exact retV (res3 rfl (fstI hfin) (thd1I hfin) (thd2I hfin)) hS.ext
  refine skip <| cwQ <| region <| sv (yAddQ h82 rfl) <| vM <| nil ?_
  exact ⟨_, _, rfl, ⟨k + 1, h1, h80, h81, rfl, hS, (by omega), (by rw [hI]; exact firstN_go (by omega) c89), rfl⟩, by omega⟩
 obtain rfl : k = t.fcs.length := by omega
 have hef : (firstN (fE t.ctrs.length t.fcs) t.fcs.length 0).2 = 0 := by rw [hI, Nat.sub_self]; rfl
 refine exit <| cwQ <| seq <| region <| vA <| vA <| vA <| nil <| cwQ ?_
 have hfin : checkS t = (0, 0, 0) := by unfold checkS; rw [if_neg (by rw [c9]; decide), if_neg (fun k => k c21), if_neg (fun k => k c29), if_neg (fun k => k.elim c32.1 c32.2), if_neg (by rw [show numsS t = false from c43]; decide), if_neg (fun k => k hec), if_neg (fun k => k hef)]
 refine wp_ret ?_
 exact retV (res3 rfl (fstI hfin) (thd1I hfin) (thd2I hfin)) hS.ext
theorem c_Mul64 {k : Nat} {w0 : World} (hk : k ≤ 200) : CV Tryz.prog 138 #[.int .u64 1, .int .u64 (k : Int)] w0 (.tuple #[.int .u64 0, .int .u64 (k : Int)]) := by
 refine enQ func138 rfl ntmps138 rfl fun hS => ?_
 refine seq <| region <| vA <| vA <| nil <| cwQ <| seq <| region <| vM <| sv (yBin rfl rfl rfl and_1) <| vA <| nil <| cwQ ?_
 refine seq <| region <| vM <| sv (yShr32 rfl rfl (by decide)) <| vA <| nil <| cwQ <| seq <| region <| vM <| sv (yBin rfl rfl rfl (and_k hk)) <| vA <| nil ?_
 refine cwQ <| seq <| region <| vM <| sv (yShr32 rfl rfl ⟨by omega, by omega⟩) <| vA <| nil <| cwQ <| seq <| region <| vM <| vM <| sv (yU (r := (k : Int)) rfl rfl (.inr ⟨rfl, by omega⟩) ⟨by omega, by omega⟩) ?_
 refine vA <| nil <| cwQ <| seq <| region <| vM <| vM <| sv (yU (r := 0) rfl rfl (by first | (exact .inl ⟨rfl, by omega⟩) | (exact .inr ⟨rfl, by simp⟩)) ⟨by omega, by omega⟩) <| vM <| sv (yShr32 rfl rfl ⟨by omega, by omega⟩) <| sv (yU (r := 0) rfl rfl (by first | (exact .inl ⟨rfl, by omega⟩) | (exact .inr ⟨rfl, by simp⟩)) ⟨by omega, by omega⟩) <| vA <| nil ?_
 refine cwQ <| seq <| region <| vM <| sv (yBin rfl rfl rfl and_0) <| vA <| nil <| cwQ <| seq <| region <| vM <| sv (yShr32 rfl rfl (by decide)) <| vA ?_
 refine nil <| cwQ <| seq <| region <| vM <| vM <| vM <| sv (yU (r := 0) rfl rfl (by first | (exact .inl ⟨rfl, by omega⟩) | (exact .inr ⟨rfl, by simp⟩)) ⟨by omega, by omega⟩) <| sv (yU (r := 0) rfl rfl (by first | (exact .inl ⟨rfl, by omega⟩) | (exact .inr ⟨rfl, by simp⟩)) ⟨by omega, by omega⟩) <| vA <| nil <| cwQ <| seq ?_
 refine region <| vM <| vM <| sv (yU (r := 0) rfl rfl (by first | (exact .inl ⟨rfl, by omega⟩) | (exact .inr ⟨rfl, by simp⟩)) ⟨by omega, by omega⟩) <| vM <| sv (yU (r := 0) rfl rfl (by first | (exact .inl ⟨rfl, by omega⟩) | (exact .inr ⟨rfl, by simp⟩)) ⟨by omega, by omega⟩) <| vM <| sv (yShr32 rfl rfl (by decide)) <| sv (yU (r := 0) rfl rfl (by first | (exact .inl ⟨rfl, by omega⟩) | (exact .inr ⟨rfl, by simp⟩)) ⟨by omega, by omega⟩) <| vA <| nil <| cwQ <| seq ?_
 refine region <| vM <| vM <| sv (yU (r := (k : Int)) rfl rfl (.inr ⟨rfl, by omega⟩) ⟨by omega, by omega⟩) <| vA <| nil <| cwQ <| wp_ret ?_
 exact retV (res2 rfl rfl rfl) hS.ext
theorem c_Mul {k : Nat} {w0 : World} (hk : k ≤ 200) : CV Tryz.prog 115 #[.int .u64 1, .int .u64 (k : Int)] w0 (.tuple #[.int .u64 0, .int .u64 (k : Int)]) := by
 refine enQ func115 rfl ntmps115 rfl fun hS => ?_
 refine seq <| region <| vA <| vA <| nil <| cwQ <| seq ?_
 refine cond rfl (fun cK => ?_) (fun cK => ?_)
 ·
  cases cK
 refine skip <| cwQ <| seq <| region <| vM <| vM ?_
 refine scV hS call138 e2 (c_Mul64 hk) fun w hS => ?_
 refine vM <| sv (yExt rfl rfl) <| sv (yExt rfl rfl) <| vA <| vA <| nil <| cwQ <| seq <| region <| vM <| vM <| vA <| vA ?_
 refine nil <| cwQ <| wp_ret ?_
 exact retV (res2 rfl rfl rfl) hS.ext
theorem c_RepeatS {k b : Nat} {s : Span} {w0 : World} (hk : k ≤ 200) (hb : w0.heap[b]? = some (.cells (spanC s).toArray 69 (0, 0))) : CE Tryz.prog 78 #[.slice (some ⟨b, 0, none⟩) 1 1, .int .i64 (k : Int)] w0 (fun u w' => St w0 w' [rowI u 69 2 k ((List.replicate k s).flatMap spanC)]) := by
 refine enQ func78 rfl ntmps78 rfl fun hS => ?_
 refine seq <| region <| vA <| nil <| cwQ <| seq <| seq <| region <| vM <| sv (yLss rfl rfl) <| nil <| cwQ ?_
 refine cond rfl ?_ ?_ <;> intro c10 <;> simp only [BS, ne_eq] at c10
 ·
  exfalso; omega
 refine skip <| cwQ <| seq <| region <| vM <| sv (yLen rfl underlying113) <| sv (yToU rfl underlying3 underlying224 ⟨by omega, by omega⟩) <| vM <| sv (yToU rfl underlying3 underlying224 ⟨by omega, by omega⟩) ?_
 refine scV hS call115 e2 (c_Mul hk) fun w hS => ?_
 refine vM <| sv (yExt rfl rfl) <| sv (yExt rfl rfl) <| vA <| vA <| nil <| cwQ <| seq <| seq <| region <| vM <| sv (yGtr rfl rfl) <| vM ?_
 refine sg rfl rfl rfl (fun g => (yMove rfl)) (fun v24 g24 => ?_)
 refine sg rfl rfl rfl (fun g => (yGtr (g24.1 g) rfl)) (fun v25 g25 => ?_)
 refine sv (yOr rfl rfl (fun hB => (g25.1 hB))) <| nil <| cwQ ?_
 refine cond rfl ?_ ?_ <;> intro c26 <;> simp only [BS, ne_eq] at c26
 ·
  exfalso; omega
 refine skip <| cwQ <| seq <| region <| vM <| sv (yToI rfl underlying224 underlying3 ⟨by omega, by omega⟩) ?_
 refine smake (bytes := 16) (zs := [.int .i64 0, .int .i64 0]) (m := k) hS rfl rfl underlying113 ti69 rfl rfl rfl rfl rfl (by omega) (by omega) ?_; clear hS; intro b30 w hS
 refine vA <| nil <| cwQ <| seq <| region ?_
 rw [repS_zero s] at hS
 refine vM <| vM ?_
 refine scopyK (m := min 1 k) (news := (List.replicate (min 1 k) s).flatMap spanC) hS rfl rfl underlying113 sizeOf69 rfl (by rw [flat_len spanC_len, List.length_replicate]) (rep_src (l := [s]) (hS.ext.get hb) (take_min1 s k)) (by rw [flat_len spanC_len, flat_len spanC_len, repS_len (Nat.zero_le _), List.length_replicate]; omega) (rep_one _ _) ?_; clear hS; intro w hS; rw [show (0 : Nat) = 0 * 2 from rfl, repS_copy (by omega), Nat.zero_add] at hS
 refine vA <| nil <| cwQ <| seq <| block <| loop (fun f w zz => ∃ (j : Nat), f 7 = .slice (some ⟨b30, 0, none⟩) k k ∧ f 8 = .int .i64 (j : Int) ∧ StX [] w0 w [blk b30 ((repS s j k).flatMap spanC) 69] ∧ (j ≤ k ∧ (k = 0 ∨ 1 ≤ j)) ∧ zz = k - j) _ ⟨_, rfl, min 1 k, rfl, rfl, hS, (⟨by omega, by omega⟩), rfl⟩ ?_
 clear hS
 rintro f w _ ⟨j, h7, h8, hS, hj, rfl⟩
 refine seq <| seq <| region <| sv (yMove h8) <| sv (yMove h7) <| sv (yLen rfl underlying113) <| sv (yLss rfl rfl) <| nil <| cwQ ?_
 refine cond rfl ?_ ?_ <;> intro c37 <;> simp only [BS, ne_eq] at c37
 ·
  refine skip <| cwQ <| block <| region_mix (fun w => StX [] w0 w []) 10 mixed hS ?_
  clear hS; intro w hS
  refine fsQ 0 rfl (fun w hS => yMove h8) <| fsQ 1 rfl (fun w hS => yMove h7) <| fsQ 2 rfl (fun w hS => yMove h8) <| fsQ 3 rfl (fun w hS => yTailLt rfl rfl underlying113 sizeOf69 (by omega) (by omega)) <| fsQ 4 rfl (fun w hS => yMove h7) <| fsQ 5 rfl (fun w hS => yMove h8) <| fsQ 6 rfl (fun w hS => yHead ⟨_, rfl⟩ rfl rfl underlying113 sizeOf69 (by omega)) <| awQ <| a1Q 7 rfl ?_
  refine scopyK (m := min j (k - j)) (news := (List.replicate (min j (k - j)) s).flatMap spanC) hS rfl rfl underlying113 sizeOf69 rfl (by rw [flat_len spanC_len, List.length_replicate]) (rep_src (hS.at b30) (repS_take (by omega))) (by rw [flat_len spanC_len, flat_len spanC_len, repS_len hj.1, List.length_replicate]; omega) (rep_one _ _) ?_; clear hS; intro w hS; rw [repS_copy (by omega)] at hS
  refine nil <| kpQ <| awQ <| fsQ 8 rfl (fun w hS => Y.to (yAddQ rfl rfl) rfl) <| fsQ 9 rfl (fun w hS => yAsg rfl) <| a_end (by kernel_rfl) ?_
  exact ⟨_, _, rfl, ⟨j + min j (k - j), h7, rfl, hS, (⟨by omega, by omega⟩), rfl⟩, by omega⟩
 refine exit <| cwQ <| seq <| region <| sv (yMove h7) <| vA <| nil <| cwQ <| wp_ret <| retQ (res1 rfl rfl) ?_
 obtain rfl : j = k := by omega
 rw [repS_full] at hS
 exact hS.toRow 2 j (by rw [flat_len spanC_len, List.length_replicate]) (by omega)
theorem c_CloneS {l : List Span} {a : Option Addr} {cap nn : Nat} {w0 : World} (hsl : Sl w0 2 RSpan (.slice a nn cap) l) (hn : l.length = nn) (hlen : nn ≤ 1000) : CE Tryz.prog 66 #[.slice a nn cap] w0 (fun u w' => St w0 w' [rowI u 69 2 nn (l.flatMap spanC)]) := by
 subst hn
 refine enQ func66 rfl ntmps66 rfl fun hS => ?_
 refine seq <| region <| vA <| nil <| cwQ <| seq <| seq <| region <| vM <| sv (yEqNil rfl rfl underlying113) <| nil <| cwQ ?_
 refine cond rfl (fun c4 => ?_) (fun c4 => ?_)
 ·
  obtain rfl : a = none := by cases a with | none => rfl | some _ => cases c4
  obtain rfl := sl_nil_of hsl
  refine seq <| region <| vA <| nil <| cwQ ?_
  refine wp_ret (thenR ?_)
  refine retQ (res1 rfl rfl) ?_
  exact hS.nilrow 69 2
 refine skip <| cwQ <| seq <| region ?_
 refine sbslice0 hS underlying113 sizeOf69 ?_; clear hS; intro b5 w hS
 refine vM ?_
 refine sappS (bytes := 16) (size := 2) hS rfl rfl underlying113 ti69 rfl rfl rfl rfl (by decide) sizeOf69 (fun hh => by obtain ⟨bd, od, e1, e2⟩ := spans_news hsl hh; exact ⟨bd, od, e1, e2.ext hS.ext⟩) (by rw [flat_len spanC_len]) (spans_one l) (by omega) (by omega) ?_; clear hS; intro v7 w hS; rw [Nat.zero_add, List.nil_append] at hS
 refine vA <| nil <| cwQ <| wp_ret <| retQ (res1 rfl rfl) ?_
 exact hS
theorem c_IndexSp {l : List Span} {p : Span → Bool} {v : Value} {g : Nat} {cl : List Value} {w0 : World} (hsl : Sl w0 2 RSpan v l) (hcall : ∀ ys w, (callFunc g ys).run Tryz.prog w = .ok (.enter g ys) w) (hp : ∀ x w, x ∈ l → Ext w0 w → CV Tryz.prog g (.agg (spanC x).toArray :: cl).toArray w (.bool (p x))) : CV Tryz.prog 151 #[v, .func (.func g) #[] cl.toArray] w0 (.int .i64 (idxF p l 0)) := by
 obtain ⟨a, cap, rfl, hcap, hmx, hel⟩ := hsl
 refine enQ func151 rfl ntmps151 rfl fun hS => ?_
 refine seq <| region <| vA <| nil <| cwQ <| seq <| seq <| region <| vM <| sv (yLen rfl underlying113) <| vM <| nil <| cwQ ?_
 refine block <| loop (fun f w zz => ∃ (k : Nat), f 0 = .slice a l.length cap ∧ f 1 = .func (.func g) #[] cl.toArray ∧ f 7 = .int .i64 (l.length : Int) ∧ f 8 = .int .i64 (k : Int) ∧ StX [] w0 w [] ∧ (k ≤ l.length) ∧ (idxF p l 0 = idxF p (l.drop k) k) ∧ zz = l.length - k) _ ⟨_, rfl, 0, rfl, rfl, rfl, rfl, hS, (Nat.zero_le _), (rfl), rfl⟩ ?_
 clear hS
 rintro f w _ ⟨k, h0, h1, h7, h8, hS, hk, hI, rfl⟩
 refine seq <| region <| sv (yLss h8 h7) <| nil <| cwQ <| seq ?_
 refine cond rfl ?_ ?_ <;> intro c9 <;> simp only [BS, ne_eq] at c9
 ·
  refine skip <| cwQ <| seq <| block <| seq <| region <| sv (yMove h8) <| vA <| nil <| cwQ <| seq <| region ?_
  obtain ⟨x, hx, hd⟩ := drop_of (l := l) (k := k) (by omega)
  obtain ⟨b, o, cs, ha, hlen, hcs, hR⟩ := hel k (by omega)
  obtain rfl : x = l[k] := (List.getElem?_eq_some_iff.1 hx).2.symm
  obtain ⟨rfl, -⟩ := hR
  refine sv (yMove h1) <| sv (yMove h0) <| vM <| sv (yIxQ rfl ha rfl runUnderlying113 sizeOf69) <| sv (yLdA rfl isAgg69 sizeOf69 (hcs.ext hS.ext) rfl) ?_
  refine scallf rfl hcall e1 (hp _ _ (List.getElem_mem _) hS.ext) ?_
  rintro _ w ⟨rfl, hE⟩; replace hS := hS.step hE; clear hE
  refine nil <| cwQ ?_
  refine cond rfl (fun c16 => ?_) (fun c16 => ?_)
  ·
   refine seq <| region <| vM <| vA <| nil <| cwQ ?_
   refine wp_ret (blockR (thenR (thenR (blockR (thenR ?_)))))
   exact retV (res1 rfl (by rw [hI, hd, idxF, if_pos c16]; rfl)) hS.ext
  refine skip <| cwQ <| region <| sv (yAddQ h8 rfl) <| vM <| nil ?_
  exact ⟨_, _, rfl, ⟨k + 1, h0, h1, h7, rfl, hS, (by omega), (by rw [hI, hd, idxF, if_neg (by simp [c16])]; rfl), rfl⟩, by omega⟩
 refine exit <| cwQ <| seq <| region <| vA <| nil <| cwQ ?_
 obtain rfl : k = l.length := by omega
 refine wp_ret ?_
 exact retV (res1 rfl (by rw [hI, List.drop_length]; rfl)) hS.ext
theorem c_ContainsSp {l : List Span} {p : Span → Bool} {v : Value} {g : Nat} {cl : List Value} {w0 : World} (hsl : Sl w0 2 RSpan v l) (hcall : ∀ ys w, (callFunc g ys).run Tryz.prog w = .ok (.enter g ys) w) (hp : ∀ x w, x ∈ l → Ext w0 w → CV Tryz.prog g (.agg (spanC x).toArray :: cl).toArray w (.bool (p x))) : CV Tryz.prog 135 #[v, .func (.func g) #[] cl.toArray] w0 (.bool (l.any p)) := by
 refine enQ func135 rfl ntmps135 rfl fun hS => ?_
 refine seq <| region <| vA <| nil <| cwQ <| seq <| region <| vM <| vM ?_
 refine scV hS call151 e2 (c_IndexSp hsl hcall hp) fun w hS => ?_
 refine sv (yGeq rfl rfl) <| vA <| nil <| cwQ <| wp_ret ?_
 exact retV (res1 rfl (by rw [← idxF_any p l 0 (Int.le_refl 0)]; rfl)) hS.ext
theorem c_empty1 {x : Span} {w0 : World} : CV Tryz.prog 136 #[.agg (spanC x).toArray] w0 (.bool (decide (x.hi < x.lo))) := by
 refine enQ func136 rfl ntmps136 rfl fun hS => ?_
 refine seq <| region ?_
 refine sbox hS rfl rfl fun b1 w hS => ?_
 refine vA <| nil <| cwQ <| seq <| region <| sv (fa69_0 rfl) <| vL rfl isAgg3 hS rfl <| sv (fa69_1 rfl) <| vL rfl isAgg3 hS rfl <| sv (yGtr rfl rfl) <| vA <| nil <| cwQ ?_
 refine wp_ret ?_
 exact rvQ hS
theorem c_emptyS {l : List Span} {v : Value} {w0 : World} (hsl : Sl w0 2 RSpan v l) : CV Tryz.prog 112 #[v] w0 (.bool (emptyS l)) := by
 refine enQ func112 rfl ntmps112 rfl fun hS => ?_
 refine seq <| region <| vA <| nil <| cwQ <| seq <| region <| vM ?_
 refine scV hS call135 e2 (c_ContainsSp (p := fun x => decide (x.hi < x.lo)) (cl := []) (hsl.ext RSpan.stays hS.ext) call136 (fun x w hx e => c_empty1)) fun w hS => ?_
 refine vA <| nil <| cwQ <| wp_ret ?_
 exact rvQ hS
theorem c_meetS {ss os : List Span} {g cap o m capS nn : Nat} {ov : Value} {w0 w : World} {L9 : List Bx.Item} (hS : StX [] w0 w (rowI (.slice (some ⟨g, 0, none⟩) nn cap) 69 2 nn ((ss).flatMap spanC) :: L9)) (ho : ∀ (q : List Span) w', StX [] w0 w' (rowI (.slice (some ⟨g, 0, none⟩) nn cap) 69 2 nn ((q).flatMap spanC) :: L9) → Sl w' 2 RSpan ov os) (hl : os.length ≤ m) (hn : ss.length = nn) (hm : o + m ≤ nn) (hmx : m ≤ 9223372036854775807) : CE Tryz.prog 79 #[.slice (some ⟨g, o * 2, none⟩) m capS, ov] w (fun u w' => u = .tuple #[] ∧ StX [] w0 w' (rowI (.slice (some ⟨g, 0, none⟩) nn cap) 69 2 nn ((meetK ss os o os.length).flatMap spanC) :: L9)) := by
 obtain ⟨ao, co, rfl, hocap, homx, -⟩ := id (ho ss w hS)
 refine enter func79 rfl ntmps79 rfl ?_
 skip
 refine seq <| region <| vM <| sv (yLen rfl underlying113) <| vM <| nil <| cwQ <| block <| loop (fun f w zz => ∃ (k : Nat), f 0 = .slice (some ⟨g, o * 2, none⟩) m capS ∧ f 6 = .slice ao os.length co ∧ f 7 = .int .i64 (os.length : Int) ∧ f 8 = .int .i64 (k : Int) ∧ StX [] w0 w ((rowI (.slice (some ⟨g, 0, none⟩) nn cap) 69 2 nn ((meetK ss os o k).flatMap spanC) :: L9)) ∧ (k ≤ os.length) ∧ zz = os.length - k) _ ⟨_, rfl, 0, rfl, rfl, rfl, rfl, hS, (Nat.zero_le _), rfl⟩ ?_
 clear hS
 rintro f w _ ⟨k, h0, h6, h7, h8, hS, hk, rfl⟩
 refine seq <| region <| sv (yLss h8 h7) <| nil <| cwQ <| seq ?_
 refine cond rfl ?_ ?_ <;> intro c9 <;> simp only [BS, ne_eq] at c9
 ·
  have hkl : k < os.length := by omega
  obtain ⟨bx, ox, cx, hax, hlx, hcx, hRx, -⟩ := sl_at (ho _ w hS) (spn_get (l := os) hkl)
  obtain ⟨rfl, -⟩ := hRx
  refine skip <| cwQ <| seq <| block <| seq <| region <| sv (yMove h8) <| sv (yIxQ h6 hax h8 runUnderlying113 sizeOf69) <| sv (yLdA rfl isAgg69 sizeOf69 hcx rfl) ?_
  refine salloc hS zeroValue69 rfl fun b5 w hS => ?_
  refine vA ?_
  refine sS hS rfl sizeOf69 fun w hS => ?_
  refine nil <| cwQ <| region_mix (fun w => StX [] w0 w (blk b5 (spanC (spn os k)) 69 :: rowI (.slice (some ⟨g, 0, none⟩) nn cap) 69 2 nn ((meetK ss os o k).flatMap spanC) :: L9)) 20 mixed hS ?_
  clear hS; intro w hS
  refine fsQ 0 rfl (fun w hS => yMove h0) <| fsQ 1 rfl (fun w hS => yMove rfl) <| fsQ 2 rfl (fun w hS => yMove h0) <| fsQ 3 rfl (fun w hS => yMove rfl) <| fsQ 4 rfl (fun w hS => Y.to (yIxQ rfl rfl rfl runUnderlying113 sizeOf69) (congrArg (fun q => Value.pointer (some ⟨g, q, none⟩)) (show o * 2 + k * 2 = (o + k) * 2 by omega))) <| fsQ 5 rfl (fun w hS => fa69_0 rfl) ?_
  refine fsQ 6 rfl (fun w hS => yLd rfl isAgg3 ((flat_cells0 (enc := spanC) spanC_len (row_at (hS.row (.slice (some ⟨g, 0, none⟩) nn cap)) rfl (by omega)) (spn_get (l := meetK ss os o k) (i := o + k) (by rw [meetK_len]; omega))).at (j := 0) rfl)) ?_
  refine fsQ 7 rfl (fun w hS => fa69_0 rfl) <| fsQ 8 rfl (fun w hS => yLdB rfl isAgg3 (hS.at _) rfl) <| fsQ 9 rfl (fun w hS => yMax rfl rfl) <| fsQ 10 rfl (fun w hS => yMove h0) <| fsQ 11 rfl (fun w hS => yMove rfl) <| fsQ 12 rfl (fun w hS => Y.to (yIxQ rfl rfl rfl runUnderlying113 sizeOf69) (congrArg (fun q => Value.pointer (some ⟨g, q, none⟩)) (show o * 2 + k * 2 = (o + k) * 2 by omega))) <| fsQ 13 rfl (fun w hS => fa69_1 rfl) ?_
  refine fsQ 14 rfl (fun w hS => yLd rfl isAgg3 ((flat_cells0 (enc := spanC) spanC_len (row_at (hS.row (.slice (some ⟨g, 0, none⟩) nn cap)) rfl (by omega)) (spn_get (l := meetK ss os o k) (i := o + k) (by rw [meetK_len]; omega))).at (j := 1) rfl)) ?_
  refine fsQ 15 rfl (fun w hS => fa69_1 rfl) <| fsQ 16 rfl (fun w hS => yLdB rfl isAgg3 (hS.at _) rfl) <| fsQ 17 rfl (fun w hS => yMin rfl rfl) <| fsQ 18 rfl (fun w hS => yBuild zeroValue69 rfl pl69 (.cons rfl rfl (.cons rfl rfl .nil)) rfl) <| fsQ 19 rfl (fun w hS => Y.to (yIxQ rfl rfl rfl runUnderlying113 sizeOf69) (congrArg (fun q => Value.pointer (some ⟨g, q, none⟩)) (show o * 2 + k * 2 = (o + k) * 2 by omega))) <| awQ <| a1Q 20 rfl ?_
  refine srst (m := nn) (cap := cap) (sz := 2) (vs := spanC (cutS (spn (meetK ss os o k) (o + k)) (spn os k))) hS rfl rfl sizeOf69 rfl rfl (by omega) rfl ?_; clear hS; intro w hS
  rw [splice_enc spanC_len _ _ _ (by rw [meetK_len]; omega)] at hS
  refine nil ?_
  refine ⟨fun h => absurd h (by decide), ?_⟩
  refine awQ <| a_end (by kernel_rfl) <| cwQ <| region <| sv (yAddQ h8 rfl) <| vM <| nil ?_
  exact ⟨_, _, rfl, ⟨k + 1, h0, h6, h7, rfl, (hS.sub (.cons _ lrQ)), (by omega), rfl⟩, by omega⟩
 obtain rfl : k = os.length := by omega
 refine exit <| thenOut <| thenOut <| blockIn ?_
 show bodyPost _ _ _ .normal _ _
 refine retN (results_none rfl _ _ _) ?_
 exact ⟨rfl, hS⟩
theorem c_tight1 {ss : List Span} {g cap b2 b3 i k m : Nat} {r : Int} {w0 w : World} {L9 : List Bx.Item} (hS : StX [] w0 w (rowI (.slice (some ⟨g, 0, none⟩) m cap) 69 2 m ((ss).flatMap spanC) :: blk b2 [.slice (some ⟨g, 0, none⟩) m cap] 113 :: blk b3 [.int .i64 r] 3 :: L9)) (hl : ss.length = m) (hi : i < m) (hk : k < m) (hmx : m ≤ 9223372036854775807) (hb : SBd 40000000 (spn ss k)) (hr : 0 ≤ r ∧ r ≤ 5000) : CE Tryz.prog 113 #[.int .i64 (i : Int), .int .i64 (k : Int), ptQ b2, ptQ b3] w (fun u w' => u = .tuple #[] ∧ StX [] w0 w' (rowI (.slice (some ⟨g, 0, none⟩) m cap) 69 2 m ((ss.set i (nearS r (spn ss i) (spn ss k))).flatMap spanC) :: blk b2 [.slice (some ⟨g, 0, none⟩) m cap] 113 :: blk b3 [.int .i64 r] 3 :: L9)) := by
 unfold SBd at hb
 refine enter func113 rfl ntmps113 rfl ?_
 skip
 refine region_mix (fun w => StX [] w0 w (rowI (.slice (some ⟨g, 0, none⟩) m cap) 69 2 m ((ss).flatMap spanC) :: blk b2 [.slice (some ⟨g, 0, none⟩) m cap] 113 :: blk b3 [.int .i64 r] 3 :: L9)) 30 mixed hS ?_
 clear hS; intro w hS
 refine fsQ 0 rfl (fun w hS => yLdB rfl isAgg113 (hS.at b2) rfl) <| fsQ 1 rfl (fun w hS => yMove rfl) <| fsQ 2 rfl (fun w hS => yLdB rfl isAgg113 (hS.at b2) rfl) <| fsQ 3 rfl (fun w hS => yMove rfl) <| fsQ 4 rfl (fun w hS => yIx0 (m := i) rfl rfl runUnderlying113 sizeOf69 (by omega)) <| fsQ 5 rfl (fun w hS => fa69_0 rfl) <| fsQ 6 rfl (fun w hS => yLd rfl isAgg3 ((flat_cells0 (enc := spanC) spanC_len (row_at (hS.row (.slice (some ⟨g, 0, none⟩) m cap)) rfl (by omega)) (spn_get (l := ss) (i := i) (by omega))).at (j := 0) rfl)) <| fsQ 7 rfl (fun w hS => yLdB rfl isAgg113 (hS.at b2) rfl) <| fsQ 8 rfl (fun w hS => yMove rfl) <| fsQ 9 rfl (fun w hS => yIx0 (m := k) rfl rfl runUnderlying113 sizeOf69 (by omega)) <| fsQ 10 rfl (fun w hS => fa69_0 rfl) <| fsQ 11 rfl (fun w hS => yLd rfl isAgg3 ((flat_cells0 (enc := spanC) spanC_len (row_at (hS.row (.slice (some ⟨g, 0, none⟩) m cap)) rfl (by omega)) (spn_get (l := ss) (i := k) (by omega))).at (j := 0) rfl)) ?_
 refine fsQ 12 rfl (fun w hS => yLdB rfl isAgg3 (hS.at b3) rfl) <| fsQ 13 rfl (fun w hS => ySubQ rfl rfl) <| fsQ 14 rfl (fun w hS => yMax rfl rfl) <| fsQ 15 rfl (fun w hS => yLdB rfl isAgg113 (hS.at b2) rfl) <| fsQ 16 rfl (fun w hS => yMove rfl) <| fsQ 17 rfl (fun w hS => yIx0 (m := i) rfl rfl runUnderlying113 sizeOf69 (by omega)) <| fsQ 18 rfl (fun w hS => fa69_1 rfl) <| fsQ 19 rfl (fun w hS => yLd rfl isAgg3 ((flat_cells0 (enc := spanC) spanC_len (row_at (hS.row (.slice (some ⟨g, 0, none⟩) m cap)) rfl (by omega)) (spn_get (l := ss) (i := i) (by omega))).at (j := 1) rfl)) <| fsQ 20 rfl (fun w hS => yLdB rfl isAgg113 (hS.at b2) rfl) <| fsQ 21 rfl (fun w hS => yMove rfl) <| fsQ 22 rfl (fun w hS => yIx0 (m := k) rfl rfl runUnderlying113 sizeOf69 (by omega)) <| fsQ 23 rfl (fun w hS => fa69_1 rfl) <| fsQ 24 rfl (fun w hS => yLd rfl isAgg3 ((flat_cells0 (enc := spanC) spanC_len (row_at (hS.row (.slice (some ⟨g, 0, none⟩) m cap)) rfl (by omega)) (spn_get (l := ss) (i := k) (by omega))).at (j := 1) rfl)) ?_
 refine fsQ 25 rfl (fun w hS => yLdB rfl isAgg3 (hS.at b3) rfl) <| fsQ 26 rfl (fun w hS => yAddQ rfl rfl) <| fsQ 27 rfl (fun w hS => yMin rfl rfl) <| fsQ 28 rfl (fun w hS => yBuild zeroValue69 rfl pl69 (.cons rfl rfl (.cons rfl rfl .nil)) rfl) <| fsQ 29 rfl (fun w hS => yIx0 (m := i) rfl rfl runUnderlying113 sizeOf69 (by omega)) <| awQ <| a1Q 30 rfl ?_
 refine srst (m := m) (cap := cap) (sz := 2) (vs := spanC (nearS r (spn ss i) (spn ss k))) hS rfl rfl sizeOf69 rfl rfl (by omega) rfl ?_; clear hS; intro w hS
 rw [splice_enc spanC_len _ _ _ (by omega)] at hS
 refine nil ?_
 refine ⟨fun h => absurd h (by decide), ?_⟩
 refine awQ <| a_end (by kernel_rfl) ?_
 show bodyPost _ _ _ .normal _ _
 refine retN (results_none rfl _ _ _) ?_
 exact ⟨rfl, hS⟩
theorem c_tighten {l : List Span} {g cap : Nat} {r : Int} {w0 w : World} {L9 : List Bx.Item} (hS : StX [] w0 w (rowI (.slice (some ⟨g, 0, none⟩) l.length cap) 69 2 l.length ((l).flatMap spanC) :: L9)) (hmx : l.length ≤ 1000) (hlb : LBd 40000000 l) (hr : 0 ≤ r ∧ r ≤ 5000) : CE Tryz.prog 67 #[.slice (some ⟨g, 0, none⟩) l.length cap, .int .i64 r] w (fun u w' => u = .bool (someT r l) ∧ ∃ q : List Span, (someT r l = true → q = tightS r l) ∧ StX [] w0 w' (rowI (.slice (some ⟨g, 0, none⟩) l.length cap) 69 2 l.length ((q).flatMap spanC) :: L9)) := by
 refine enter func67 rfl ntmps67 rfl ?_
 skip
 refine seq <| region ?_
 refine sbox hS rfl rfl fun b2 w hS => ?_
 refine sbox hS rfl rfl fun b3 w hS => ?_
 refine vA <| nil <| cwQ <| seq <| seq <| region ?_
 replace hS := hS.perm (tight_perm _ _ _ _)
 refine vL rfl isAgg113 hS rfl ?_
 refine scV hS call112 e1 (c_emptyS (sl_spans (hS.row (.slice (some ⟨g, 0, none⟩) l.length cap)) rfl (lbd_i64 hlb))) fun w hS => ?_
 refine nil <| cwQ ?_
 refine cond rfl (fun c9 => ?_) (fun c9 => ?_)
 ·
  have hst : someT r l = false := by unfold someT; rw [c9]; rfl
  refine seq <| region <| vA <| nil <| cwQ ?_
  refine wp_ret (thenR ?_)
  refine retQ (res1 rfl rfl) ?_
  exact ⟨by rw [hst]; rfl, l, (fun k => by rw [hst] at k; cases k), hS.sub (.cons_cons _ (.cons _ (.cons _ lrQ)))⟩
 have hpos : 0 < l.length ∨ l.length = 0 := by omega
 refine skip <| cwQ <| seq <| region <| sv (yFn e2) <| vA <| nil <| cwQ <| seq <| seq <| region <| vA <| nil ?_
 refine cwQ <| block ?_
 refine loop (fun f w zz => ∃ (i : Nat), f 2 = ptQ b2 ∧ f 3 = ptQ b3 ∧ f 5 = .func (.func 113) #[] #[ptQ b2, ptQ b3] ∧ f 6 = .int .i64 (i : Int) ∧ StX [] w0 w ((rowI (.slice (some ⟨g, 0, none⟩) l.length cap) 69 2 l.length ((fwL r l i).flatMap spanC) :: blk b2 [.slice (some ⟨g, 0, none⟩) l.length cap] 113 :: blk b3 [.int .i64 r] 3 :: L9)) ∧ (1 ≤ i ∧ (i ≤ l.length ∨ i = 1)) ∧ zz = l.length - i) _ ⟨_, rfl, 1, rfl, rfl, rfl, rfl, (by rw [fwL_1]; exact hS), (⟨Nat.le_refl _, .inr rfl⟩), rfl⟩ ?_
 clear hS
 rintro f w _ ⟨i, h2, h3, h5, h6, hS, hi, rfl⟩
 refine seq <| seq <| region <| sv (yMove h6) <| sv (yLdB h2 isAgg113 (hS.at _) rfl) <| sv (yLen rfl underlying113) <| sv (yLss rfl rfl) <| nil <| cwQ ?_
 refine cond rfl ?_ ?_ <;> intro c14 <;> simp only [BS, ne_eq] at c14
 ·
  have hbd := fwL_sbd hr.1 hlb i
  refine skip <| cwQ <| seq <| block <| region <| sv (yMove h5) <| sv (yMove h6) <| sv (yMove h6) <| sv (Y.to (ySubQ rfl rfl) (congrArg (Value.int .i64) (show (i : Int) - 1 = ((i - 1 : Nat) : Int) by omega))) ?_
  refine scallf rfl call113 e2 (c_tight1 (i := i) (k := (i - 1)) hS (fwL_len ..) (by omega) (by omega) (by omega) (hbd _ (by rw [fwL_len]; omega)) hr) ?_
  clear hS; rintro _ w ⟨rfl, hS⟩
  refine nil <| cwQ <| region <| sv (yMove h6) <| sv (yAddQ rfl rfl) <| vA <| nil ?_
  exact ⟨_, _, rfl, ⟨i + 1, h2, h3, h5, rfl, (by rw [fwL_succ hi.1 (by omega)]; exact hS), (⟨by omega, .inl (by omega)⟩), rfl⟩, by omega⟩
 have hfe : fwL r l i = bwL r l 0 := fwL_end (by omega) hi.1
 rw [hfe] at hS
 refine exit <| cwQ <| seq <| seq <| region <| sv (yLdB h2 isAgg113 (hS.at _) rfl) <| sv (yLen rfl underlying113) <| sv (ySubQ rfl rfl) <| vA <| nil <| cwQ <| block <| loop (fun f w zz => ∃ (m : Nat), f 2 = ptQ b2 ∧ f 3 = ptQ b3 ∧ f 5 = .func (.func 113) #[] #[ptQ b2, ptQ b3] ∧ f 7 = .int .i64 ((l.length : Int) - 2 - (m : Int)) ∧ StX [] w0 w ((rowI (.slice (some ⟨g, 0, none⟩) l.length cap) 69 2 l.length ((bwL r l m).flatMap spanC) :: blk b2 [.slice (some ⟨g, 0, none⟩) l.length cap] 113 :: blk b3 [.int .i64 r] 3 :: L9)) ∧ (m + 1 ≤ l.length ∨ m = 0) ∧ zz = l.length - m) _ ⟨_, rfl, 0, h2, h3, h5, (rfl.trans (congrArg (Value.int .i64) (by omega))), hS, (.inr rfl), rfl⟩ ?_
 clear hS
 rintro f w _ ⟨m, h2, h3, h5, h7, hS, hm, rfl⟩
 refine seq <| seq <| region <| sv (yMove h7) <| sv (yGeq rfl rfl) <| nil <| cwQ ?_
 refine cond rfl ?_ ?_ <;> intro c26 <;> simp only [BS, ne_eq] at c26
 ·
  have hbd := bwL_sbd hr.1 hlb m
  refine skip <| cwQ <| seq <| block <| region <| sv (yMove h5) <| sv (Y.to (yMove h7) (congrArg (Value.int .i64) (show (l.length : Int) - 2 - (m : Int) = ((l.length - 1 - (m + 1) : Nat) : Int) by omega))) <| sv (yMove h7) <| sv (Y.to (yAddQ rfl rfl) (congrArg (Value.int .i64) (show (l.length : Int) - 2 - (m : Int) + 1 = ((l.length - 1 - m : Nat) : Int) by omega))) ?_
  refine scallf rfl call113 e2 (c_tight1 (i := (l.length - 1 - (m + 1))) (k := (l.length - 1 - m)) hS (bwL_len ..) (by omega) (by omega) (by omega) (hbd _ (by rw [bwL_len]; omega)) hr) ?_
  clear hS; rintro _ w ⟨rfl, hS⟩
  refine nil <| cwQ <| region <| sv (yMove h7) <| sv (ySubQ rfl rfl) <| vA <| nil ?_
  exact ⟨_, _, rfl, ⟨m + 1, h2, h3, h5, (rfl.trans (congrArg (Value.int .i64) (by omega))), (by rw [bwL_succ (by omega)]; exact hS), (.inl (by omega)), rfl⟩, by omega⟩
 have hbe : bwL r l m = tightS r l := bwL_end (by omega)
 rw [hbe] at hS
 refine exit <| cwQ <| seq <| region <| sv (yLdB h2 isAgg113 (hS.at _) rfl) ?_
 refine scV hS call112 e1 (c_emptyS (sl_spans (by have := hS.row (.slice (some ⟨g, 0, none⟩) l.length cap); exact this) (tightS_len ..) (lbd_i64 (tight_sbd hr.1 hlb)))) ?_; clear hS; intro w hS
 refine sv (yNot rfl) <| vA <| nil <| cwQ <| wp_ret <| retQ (res1 rfl rfl) ?_
 exact ⟨by unfold someT; rw [c9]; rfl, _, fun _ => rfl, hS.sub (.cons_cons _ (.cons _ (.cons _ lrQ)))⟩
end Go.Proofs.YtchbdfcbogjhcaaGreatDoor
