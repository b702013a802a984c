/- Merged texts, part 2. -/
import Derived.Test.YtchbdfcbogjhcaaGreatDoorQ1
import Derived.Sort.Grow
import Derived.Deep.Draws
import Derived.Shelf.GgSortFunc.InsertionK
import Derived.Sort.LotA
import Derived.Lib.AppendZeros
import Derived.Laws.StructEq
import Derived.Test.YtchbdfcbogjhcaaGreatDoorProg
set_option linter.all false
set_option maxHeartbeats 8000000
namespace Bx
open Go Go.RowKit
def inR (v : Value) (z : List Int) : Item := rowI v 3 1 z.length (z.flatMap encI)
def inI (vs : List Value) (zs : List (List Int)) : List Item := List.zipWith inR vs zs
theorem inI_snoc {vs : List Value} {zs : List (List Int)} (h : vs.length = zs.length) (v : Value) (z : List Int) : inI (vs ++ [v]) (zs ++ [z]) = inI vs zs ++ [inR v z] := by
 unfold inI
 rw [List.zipWith_append h]; rfl
theorem inI_split {vs : List Value} {zs : List (List Int)} {k : Nat} {v : Value} {z : List Int} (hv : vs[k]? = some v) (hz : zs[k]? = some z) : inI vs zs = inI (vs.take k) (zs.take k) ++ inR v z :: inI (vs.drop (k + 1)) (zs.drop (k + 1)) := by
 have e1 : vs = vs.take k ++ v :: vs.drop (k + 1) := by
  have := cut_at hv
  rw [List.append_assoc, List.singleton_append] at this
  exact this.symm
 have e2 : zs = zs.take k ++ z :: zs.drop (k + 1) := by
  have := cut_at hz
  rw [List.append_assoc, List.singleton_append] at this
  exact this.symm
 have hl : (vs.take k).length = (zs.take k).length := by
  have h1 := (List.getElem?_eq_some_iff.1 hv).1
  have h2 := (List.getElem?_eq_some_iff.1 hz).1
  rw [List.length_take, List.length_take]; omega
 unfold inI
 conv => lhs; rw [e1, e2]
 rw [List.zipWith_append hl]; rfl
theorem inI_get {vs : List Value} {zs : List (List Int)} {k : Nat} {v : Value} {z : List Int} (hv : vs[k]? = some v) (hz : zs[k]? = some z) : inR v z ∈ inI vs zs := by
 rw [inI_split hv hz]; simp
section
variable {P : Program} {ops : Array Oper} {S : List Nat} {w0 : World} {L : List Item} {n : Nat} {rest : List Oper} {f : Fr} {d : Nat} {ty : TypeId} {pos : String} {af : Array Edge} {w : World} {Q : Exit → Act → World → Prop} {ρ : Operand → Value}
def Mth (P : Program) (T : TypeId) (name : String) (g : FuncId) (v : Value) : Prop := ∀ w, (Go.method (P.types.size + Made.depth) T v name).run P w = .ok (g, v) w
theorem inv_run {x : Operand} {T : TypeId} {v : Value} {name : String} {g : FuncId} {xs : List Operand} {ts : Array TypeId} {vs : List Value} (hx : ρ x = .iface T v) (hm : Mth P T name g v) (ha : Evs ρ xs vs) (hc : ∀ ars w, (callFunc g ars).run P w = .ok (.enter g ars) w) :
    (xop ρ (.call ⟨.invoke x name, xs.toArray, ts⟩) ty).run P w = .ok (.enter g (v :: vs).toArray) w := by
  unfold Evs at ha
  have hm' : (Go.method (P.types.size + 100) T v name).run P w = .ok (g, v) w := hm w
  have hp : Sem.run P (Sem.program Sem.pure) w = .ok P w := rfl
  simp only [xop, execOp, resolve, hx, Sem.run_bind, Sem.run_pure, Result.andThen_ok, invoke, callMethod, List.map_toArray, ha]
  simp [Sem.run_bind, callMethod, program, go_sem, hm', hp, hc, Result.andThen]
theorem sinv {x : Operand} {T : TypeId} {v : Value} {name : String} {g : FuncId} {xs : List Operand} {ts : Array TypeId} {vs : List Value} {R : Value → World → Prop} (hx : ev n f x = .iface T v) (hm : Mth P T name g v) (ha : Evs (ev n f) xs vs) (hc : ∀ ars w, (callFunc g ars).run P w = .ok (.enter g ars) w)
    (hC : CE P g (v :: vs).toArray w R) (h : ∀ v w', R v w' → wpL P ops Q n rest (upd f d v) w') : wpL P ops Q n (⟨some d, .call ⟨.invoke x name, xs.toArray, ts⟩, ty, pos, af, none⟩ :: rest) f w :=
  scallV (inv_run hx hm ha hc) hC h
theorem qinv {K : Act → Prop} {x : Operand} {T : TypeId} {v u : Value} {name : String} {g : FuncId} {xs : List Operand} {ts : Array TypeId} {vs : List Value} (hx : ev n f x = .iface T v) (hm : Mth P T name g v) (ha : Evs (ev n f) xs vs) (hc : ∀ ars w, (callFunc g ars).run P w = .ok (.enter g ars) w)
    (hC : ∀ w, StX S w0 w L → CV P g (v :: vs).toArray w u) (h : wpQ P ops S w0 L K n rest (upd f d u)) : wpQ P ops S w0 L K n (⟨some d, .call ⟨.invoke x name, xs.toArray, ts⟩, ty, pos, af, none⟩ :: rest) f :=
  qcallV (fun _ => inv_run hx hm ha hc) hC h
theorem yFnM {x : Operand} {name : String} {v : Value} (hx : ρ x = v) : Y P ρ (.makeFunc (.method name) #[x] #[]) ty w (.func (.method name) #[v] #[]) w := by
 simp [Y, xop, execOp, Instr.makeFunc, hx]
theorem yNilM {x : Operand} {T : TypeId} {v : Value} {name : String} (hx : ρ x = .func (.method name) #[.iface T v] #[]) (hn : ∀ w, (nilAhead (P.types.size + Made.depth) T v name).run P w = .ok (some false) w) : Y P ρ (.nilCheck x) ty w (.func (.method name) #[.iface T v] #[]) w := by
 have hn' : (nilAhead (P.types.size + 100) T v name).run P w = .ok (some false) w := hn w
 simp [Y, xop, execOp, hx, go_sem, hn', Result.andThen]
end
def okAt (s : ByteArray) (i : Nat) : Prop := ∀ h : i < s.size, (97 ≤ s[i].toNat ∧ s[i].toNat ≤ 122) ∨ (0 < i ∧ (s[i].toNat = 45 ∨ 48 ≤ s[i].toNat ∧ s[i].toNat ≤ 57))
instance (s : ByteArray) (i : Nat) : Decidable (okAt s i) := by unfold okAt; infer_instance
def isName (s : ByteArray) : Bool := decide (1 ≤ s.size ∧ s.size ≤ 24 ∧ ∀ i, i < s.size → okAt s i)
theorem okAt_of (s : ByteArray) (i : Nat) (h : i < s.size) : okAt s i ↔ (97 ≤ s[i].toNat ∧ s[i].toNat ≤ 122) ∨ (0 < i ∧ (s[i].toNat = 45 ∨ 48 ≤ s[i].toNat ∧ s[i].toNat ≤ 57)) := ⟨fun k => k h, fun k _ => k⟩
theorem isName_bad (s : ByteArray) (k : Nat) (h : k < s.size) (hb : ¬ okAt s k) : isName s = false := by
 unfold isName
 rw [decide_eq_false_iff_not]
 exact fun ⟨_, _, h3⟩ => hb (h3 k h)
theorem isName_end (s : ByteArray) (h : ∀ i, i < s.size → okAt s i) : isName s = (decide (s ≠ ⟨#[]⟩) && decide ((s.size : Int) ≤ 24)) := by
 have e : s ≠ ⟨#[]⟩ ↔ 1 ≤ s.size := by
  constructor
  ·
   intro hn
   rcases Nat.eq_zero_or_pos s.size with h0 | h0
   ·
    exact absurd (ByteArray.ext (Array.eq_empty_of_size_eq_zero h0)) hn
   ·
    exact h0
  ·
   rintro h1 rfl
   exact absurd h1 (by decide)
 unfold isName
 rw [Bool.eq_iff_iff]
 simp only [decide_eq_true_eq, Bool.and_eq_true, e]
 constructor
 ·
  rintro ⟨h1, h2, _⟩
  exact ⟨h1, by omega⟩
 ·
  rintro ⟨h1, h2⟩
  exact ⟨h1, by omega, h⟩
structure Const where
 name : ByteArray
 heights : List Int
 off : Int
 step : Int
 den : Int
 slack : Int
structure Table where
 mean : Int
 consts : List Const
def RConst (w : World) (cs : List Value) (c : Const) : Prop := ∃ hv, cs = [.string c.name, hv, .int .i64 c.off, .int .i64 c.step, .int .i64 c.den, .int .i64 c.slack] ∧ c.name.size ≤ 9223372036854775807 ∧ Sl w 1 RInt hv c.heights ∧ I64 c.off ∧ I64 c.step ∧ I64 c.den ∧ I64 c.slack
theorem RConst.stays : Stays RConst := fun _ _ _ _ e ⟨hv, h1, h2, h3, h4⟩ => ⟨hv, h1, h2, h3.ext RInt.stays e, h4⟩
def RTable (w : World) (cs : List Value) (t : Table) : Prop := ∃ cv, cs = [.int .i64 t.mean, cv] ∧ I64 t.mean ∧ Sl w 6 RConst cv t.consts
theorem RTable.stays : Stays RTable := fun _ _ _ _ e ⟨cv, h1, h2, h3⟩ => ⟨cv, h1, h2, h3.ext RConst.stays e⟩
theorem RTable.ext {w w' : World} {cs : List Value} {t : Table} (h : RTable w cs t) (e : Ext w w') : RTable w' cs t := RTable.stays _ _ _ _ e h
def numsB (c : Const) : Bool := outB c.den 1 1000 || outB c.step 1 100000 || outB c.slack 0 1000 || outB c.off 0 (c.den * c.heights.length - 1) || c.heights.any (fun h => outB h (-10000) 10000)
def cErr (seen : List ByteArray) (c : Const) : Int :=
 if (!isName c.name) = true then 6 else if memB c.name seen = true then 5 else if outB c.heights.length 2 48 = true then 3 else if numsB c = true then 7 else 0
def checkL : List Const → List ByteArray → Int → Int × Int
 | [], _, _ => (0, 0)
 | c :: cs, seen, i => if cErr seen c ≠ 0 then (i, cErr seen c) else checkL cs (seen ++ [c.name]) (i + 1)
def checkT (t : Table) : Int × Int := if outB t.mean (-20000) 20000 = true then (-1, 7) else if (12 : Int) < t.consts.length then (-1, 3) else checkL t.consts [] 0
def tErr (t : Table) : Int := if outB t.mean (-20000) 20000 = true then 7 else if decide ((12 : Int) < t.consts.length) = true then 3 else 0
theorem tErr_eq (t : Table) (g1 g2 : Nat) (k1 k2 : List Value) : firstE [⟨g1, k1, 7, outB t.mean (-20000) 20000⟩, ⟨g2, k2, 3, decide ((12 : Int) < t.consts.length)⟩] = tErr t := rfl
theorem cErr_eq (seen : List ByteArray) (c : Const) (g1 g2 g3 g4 : Nat) (k1 k2 k3 k4 : List Value) :
    firstE [⟨g1, k1, 6, !isName c.name⟩, ⟨g2, k2, 5, memB c.name seen⟩, ⟨g3, k3, 3, outB c.heights.length 2 48⟩, ⟨g4, k4, 7, numsB c⟩] = cErr seen c := rfl
theorem checkT_bad {t : Table} (h : tErr t ≠ 0) : checkT t = (-1, tErr t) := by
 unfold tErr at h ⊢
 unfold checkT
 by_cases h1 : outB t.mean (-20000) 20000 = true
 ·
  rw [if_pos h1, if_pos h1]
 ·
  rw [if_neg h1] at h ⊢
  rw [if_neg h1]
  by_cases h2 : (12 : Int) < t.consts.length
  ·
   rw [if_pos h2, if_pos (decide_eq_true h2)]
  ·
   rw [if_neg (by simpa using h2)] at h
   exact absurd rfl h
theorem checkT_good {t : Table} (h : tErr t = 0) : checkT t = checkL t.consts [] 0 ∧ t.consts.length ≤ 12 := by
 unfold tErr at h
 unfold checkT
 by_cases h1 : outB t.mean (-20000) 20000 = true
 ·
  rw [if_pos h1] at h; exact absurd h (by decide)
 ·
  rw [if_neg h1] at h
  rw [if_neg h1]
  by_cases h2 : (12 : Int) < t.consts.length
  ·
   rw [if_pos (decide_eq_true h2)] at h; exact absurd h (by decide)
  ·
   rw [if_neg h2]; exact ⟨rfl, by omega⟩
theorem cErr_seen {seen : List ByteArray} {c : Const} (h : cErr seen c = 0) : c.name ∉ seen := by
 intro hm
 unfold cErr at h
 split at h
 ·
  exact absurd h (by decide)
 ·
  rw [if_pos (memB_iff.2 hm)] at h
  exact absurd h (by decide)
theorem take_names {l : List Const} {k : Nat} {c : Const} (h : l[k]? = some c) : (l.take (k + 1)).map (·.name) = (l.take k).map (·.name) ++ [c.name] := by
 have := (List.getElem?_eq_some_iff.1 h)
 obtain ⟨h1, h2⟩ := this
 rw [List.take_succ_eq_append_getElem h1, List.map_append, h2]
 rfl
theorem cyc_bd {d : Int} {l : Nat} (h1 : 1 ≤ d) (h2 : d ≤ 1000) (h3 : (l : Int) ≤ 48) : 0 ≤ d * l ∧ d * l ≤ 48000 := by
  have a : 0 ≤ (l : Int) := by omega
  refine ⟨Int.mul_nonneg (by omega) a, ?_⟩
  calc d * l ≤ 1000 * l := Int.mul_le_mul_of_nonneg_right h2 a
    _ ≤ 48000 := by omega
structure ConstOk (c : Const) : Prop where
 den : Bd c.den 1 1000
 step : Bd c.step 1 100000
 slack : Bd c.slack 0 1000
 len : 2 ≤ c.heights.length ∧ c.heights.length ≤ 48
 off : Bd c.off 0 (c.den * c.heights.length - 1)
 heights : ∀ h ∈ c.heights, Bd h (-10000) 10000
structure TableOk (t : Table) : Prop where
 mean : Bd t.mean (-20000) 20000
 len : t.consts.length ≤ 12
 consts : ∀ c ∈ t.consts, ConstOk c
theorem constOk_of {seen : List ByteArray} {c : Const} (h : cErr seen c = 0) : ConstOk c := by
 unfold cErr at h
 split at h
 ·
  exact absurd h (by decide)
 split at h
 ·
  exact absurd h (by decide)
 split at h
 ·
  exact absurd h (by decide)
 rename_i h3
 split at h
 ·
  exact absurd h (by decide)
 rename_i h4
 rw [Bool.not_eq_true, outB_false] at h3
 unfold numsB at h4
 simp only [Bool.not_eq_true, Bool.or_eq_false_iff, outB_false, List.any_eq_false, Bool.not_eq_true] at h4
 obtain ⟨⟨⟨⟨a, b⟩, c'⟩, d⟩, e⟩ := h4
 exact ⟨a, b, c', by omega, d, fun h hh => e h hh⟩
theorem checkL_ok : ∀ (cs : List Const) (seen : List ByteArray) (i : Int), (checkL cs seen i).2 = 0 → ∀ c ∈ cs, ConstOk c
  | [], _, _, _, c, hc => by cases hc
  | d :: cs, seen, i, h, c, hc => by
    unfold checkL at h
    split at h
    · rename_i h1
      exact absurd h h1
    · rename_i h1
      rcases List.mem_cons.1 hc with rfl | hc
      · exact constOk_of (Decidable.not_not.1 h1)
      · exact checkL_ok cs _ _ h c hc
theorem tableOk_of {t : Table} (h : (checkT t).2 = 0) : TableOk t := by
 unfold checkT at h
 split at h
 ·
  exact absurd h (by decide)
 rename_i h1
 split at h
 ·
  exact absurd h (by decide)
 rename_i h2
 rw [Bool.not_eq_true, outB_false] at h1
 exact ⟨h1, by omega, checkL_ok _ _ _ h⟩
def pAt (c : Const) (tick : Int) : Int := (c.off + c.step * tick) % (c.den * c.heights.length)
def interp (c : Const) (p : Int) : Int := c.heights.getD (p / c.den).toNat 0 * (c.den - p % c.den) + c.heights.getD ((p / c.den + 1) % c.heights.length).toNat 0 * (p % c.den)
def partP (c : Const) (p : Int) : Span := ⟨interp c p / c.den - c.slack, -((-interp c p) / c.den) + c.slack⟩
def addS (a b : Span) : Span := ⟨a.lo + b.lo, a.hi + b.hi⟩
def lvl (mean : Int) (cs : List Const) (tick : Int) : Span := cs.foldl (fun s c => addS s (partP c (pAt c tick))) ⟨mean, mean⟩
def lvlT (t : Table) (tick : Int) : Span := lvl t.mean t.consts tick
theorem lvl_snoc (mean : Int) (cs : List Const) (c : Const) (tick : Int) : lvl mean (cs ++ [c]) tick = addS (lvl mean cs tick) (partP c (pAt c tick)) := by simp [lvl]
theorem lvl_take {t : Table} {k : Nat} {c : Const} (h : t.consts[k]? = some c) (mean tick : Int) : lvl mean (t.consts.take (k + 1)) tick = addS (lvl mean (t.consts.take k) tick) (partP c (pAt c tick)) := by
 obtain ⟨h1, h2⟩ := List.getElem?_eq_some_iff.1 h
 rw [List.take_succ_eq_append_getElem h1, h2, lvl_snoc]
theorem cyc_pos {c : Const} (h : ConstOk c) : 2 ≤ c.den * c.heights.length ∧ c.den * c.heights.length ≤ 48000 := by
 have h1 := cyc_bd (l := c.heights.length) h.den.1 h.den.2 (by have := h.len; omega)
 refine ⟨?_, h1.2⟩
 have : 1 * 2 ≤ c.den * (c.heights.length : Int) := Int.mul_le_mul h.den.1 (by have := h.len; omega) (by omega) (by have := h.den; omega)
 omega
theorem pAt_bd {c : Const} (h : ConstOk c) (tick : Int) : Bd (pAt c tick) 0 (c.den * c.heights.length - 1) := by
 have := cyc_pos h
 exact ⟨Int.emod_nonneg _ (by omega), by have := Int.emod_lt_of_pos (c.off + c.step * tick) (show 0 < c.den * (c.heights.length : Int) by omega); unfold pAt; omega⟩
theorem pAt_succ {c : Const} (tick : Int) : (pAt c tick + c.step) % (c.den * c.heights.length) = pAt c (tick + 1) := by
 unfold pAt
 rw [Int.emod_add_emod, Int.mul_add, Int.mul_one, Int.add_assoc]
theorem quot_bd {c : Const} (h : ConstOk c) {p : Int} (hp : Bd p 0 (c.den * c.heights.length - 1)) : Bd (p / c.den) 0 (c.heights.length - 1) ∧ Bd (p % c.den) 0 (c.den - 1) := by
 have hd := h.den
 refine ⟨⟨Int.ediv_nonneg hp.1 (by omega), ?_⟩, Int.emod_nonneg _ (by omega), by have := Int.emod_lt_of_pos p (show 0 < c.den by omega); omega⟩
 have : p / c.den < c.heights.length := Int.ediv_lt_of_lt_mul (by omega) (by rw [Int.mul_comm]; omega)
 omega
theorem height_bd {c : Const} (h : ConstOk c) (i : Nat) : Bd (c.heights.getD i 0) (-10000) 10000 := by
 rw [List.getD_eq_getElem?_getD]
 cases hx : c.heights[i]? with
 | none => exact ⟨by simp, by simp⟩
 | some x => exact h.heights x (List.mem_of_getElem? hx)
theorem mul_bd {a b A B : Int} (ha : Bd a (-A) A) (hb : Bd b 0 B) (hA : 0 ≤ A) : Bd (a * b) (-(A * B)) (A * B) := by
 have h1 : a * b ≤ A * b := Int.mul_le_mul_of_nonneg_right ha.2 hb.1
 have h2 : A * b ≤ A * B := Int.mul_le_mul_of_nonneg_left hb.2 hA
 have h3 : -A * b ≤ a * b := Int.mul_le_mul_of_nonneg_right ha.1 hb.1
 have h4 : -(A * b) = -A * b := by rw [Int.neg_mul]
 exact ⟨by omega, by omega⟩
theorem interp_bd {c : Const} (h : ConstOk c) {p : Int} (hp : Bd p 0 (c.den * c.heights.length - 1)) : Bd (interp c p) (-(10000 * c.den)) (10000 * c.den) := by
 have hq := quot_bd h hp
 have hd := h.den
 have h1 : Bd (c.heights.getD (p / c.den).toNat 0 * (c.den - p % c.den)) (-(10000 * (c.den - p % c.den))) (10000 * (c.den - p % c.den)) := mul_bd (height_bd h _) ⟨by omega, Int.le_refl _⟩ (by decide)
 have h2 : Bd (c.heights.getD ((p / c.den + 1) % c.heights.length).toNat 0 * (p % c.den)) (-(10000 * (p % c.den))) (10000 * (p % c.den)) := mul_bd (height_bd h _) ⟨by omega, Int.le_refl _⟩ (by decide)
 unfold interp
 exact ⟨by omega, by omega⟩
theorem div_bd {a b A : Int} (hb : 0 < b) (h : Bd a (-(A * b)) (A * b)) : Bd (a / b) (-A) A := by
 refine ⟨?_, ?_⟩
 ·
  refine Int.le_ediv_of_mul_le hb ?_
  rw [Int.neg_mul]; exact h.1
 ·
  have := Int.ediv_le_ediv hb h.2
  rwa [Int.mul_ediv_cancel _ (by omega)] at this
theorem partP_bd {c : Const} (h : ConstOk c) {p : Int} (hp : Bd p 0 (c.den * c.heights.length - 1)) : Bd (partP c p).lo (-11000) 11000 ∧ Bd (partP c p).hi (-11000) 11000 := by
 have hi := interp_bd h hp
 have hd := h.den
 have hs := h.slack
 have h1 := div_bd (A := 10000) (by omega) hi
 have h2 := div_bd (a := -interp c p) (A := 10000) (b := c.den) (by omega) ⟨by omega, by omega⟩
 unfold partP
 exact ⟨⟨by simp only []; omega, by simp only []; omega⟩, ⟨by simp only []; omega, by simp only []; omega⟩⟩
theorem fold_bd (tick : Int) : ∀ (cs : List Const) (s : Span) (A : Int), (∀ c ∈ cs, ConstOk c) → Bd s.lo (-A) A → Bd s.hi (-A) A →
    Bd (cs.foldl (fun s c => addS s (partP c (pAt c tick))) s).lo (-(A + 11000 * cs.length)) (A + 11000 * cs.length) ∧ Bd (cs.foldl (fun s c => addS s (partP c (pAt c tick))) s).hi (-(A + 11000 * cs.length)) (A + 11000 * cs.length)
  | [], s, A, _, h1, h2 => by simp; omega
  | c :: cs, s, A, h, h1, h2 => by
    have hc : ConstOk c := h c (by simp)
    have hp := partP_bd hc (pAt_bd hc tick)
    have ih := fold_bd tick cs (addS s (partP c (pAt c tick))) (A + 11000) (fun x hx => h x (List.mem_cons_of_mem _ hx)) ⟨by simp only [addS]; omega, by simp only [addS]; omega⟩ ⟨by simp only [addS]; omega, by simp only [addS]; omega⟩
    simp only [List.foldl_cons, List.length_cons]
    exact ⟨⟨by omega, by omega⟩, ⟨by omega, by omega⟩⟩
theorem lvl_bd {mean : Int} (hm : Bd mean (-20000) 20000) (cs : List Const) (tick : Int) (h : ∀ c ∈ cs, ConstOk c) : Bd (lvl mean cs tick).lo (-(20000 + 11000 * cs.length)) (20000 + 11000 * cs.length) ∧ Bd (lvl mean cs tick).hi (-(20000 + 11000 * cs.length)) (20000 + 11000 * cs.length) :=
 fold_bd tick cs ⟨mean, mean⟩ 20000 h hm hm
theorem tdiv_floor {a b : Int} (hb : 0 < b) : (if a.tmod b < 0 then a.tdiv b - 1 else a.tdiv b) = a / b := by
 have h1 := Int.tmod_add_mul_tdiv a b
 have h3 := Int.lt_tmod_of_pos a hb
 have h4 := Int.tmod_lt_of_pos a hb
 rcases Int.lt_or_le (a.tmod b) 0 with h | h
 ·
  rw [if_pos h]
  have e : a = a.tmod b + b + b * (a.tdiv b - 1) := by rw [Int.mul_sub, Int.mul_one]; omega
  conv => rhs; rw [e]
  rw [Int.add_mul_ediv_left _ _ (by omega), Int.ediv_eq_zero_of_lt (by omega) (by omega)]
  omega
 ·
  rw [if_neg (by omega)]
  conv => rhs; rw [← h1]
  rw [Int.add_mul_ediv_left _ _ (by omega), Int.ediv_eq_zero_of_lt h h4]
  omega
theorem rep_flat (n : Nat) : (List.replicate n [Value.int .i64 0, Value.int .i64 0]).flatten = (List.replicate n (⟨0, 0⟩ : Span)).flatMap spanC := by
 rw [List.flatMap, List.map_replicate]; rfl
theorem interp_eq (c : Const) (p : Int) : c.heights.getD (p / c.den).toNat 0 * c.den + (c.heights.getD ((p / c.den + 1) % c.heights.length).toNat 0 - c.heights.getD (p / c.den).toNat 0) * (p % c.den) = interp c p := by
 unfold interp
 rw [Int.mul_sub, Int.sub_mul]
 omega
def ticksE (l : List Int) : Int := if (l.any fun a => outB a 0 200000) = true then 7 else 0
theorem ticks1 {a : Int} (h : ticksE [a] = 0) : 0 ≤ a ∧ a ≤ 200000 := by
 unfold ticksE at h
 split at h
 ·
  exact absurd h (by decide)
 ·
  rename_i h1
  simp only [List.any_cons, List.any_nil, Bool.or_false, Bool.not_eq_true, outB_false] at h1
  exact h1
theorem tdiv_bd {a b : Int} (_ : 0 < b) (ha : Bd a (-1000000000000) 1000000000000) : Bd (a.tdiv b) (-1000000000000) 1000000000000 := by
 have := Int.natAbs_tdiv_le_natAbs a b
 exact ⟨by omega, by omega⟩
structure Datum where
 start : Int
 shift : Span
structure Reading where
 tick : Int
 value : Int
structure Gauge where
 name : ByteArray
 err : Int
 rate : Int
 datums : List Datum
 readings : List Reading
def datumC (d : Datum) : List Value := [.int .i64 d.start, .int .i64 d.shift.lo, .int .i64 d.shift.hi]
def readC (r : Reading) : List Value := [.int .i64 r.tick, .int .i64 r.value]
def RDatum (_ : World) (cs : List Value) (d : Datum) : Prop := cs = datumC d ∧ I64 d.start ∧ I64 d.shift.lo ∧ I64 d.shift.hi
def RRead (_ : World) (cs : List Value) (r : Reading) : Prop := cs = readC r ∧ I64 r.tick ∧ I64 r.value
theorem RDatum.stays : Stays RDatum := fun _ _ _ _ _ h => h
theorem RRead.stays : Stays RRead := fun _ _ _ _ _ h => h
def RGauge (w : World) (cs : List Value) (g : Gauge) : Prop := ∃ dv rv, cs = [.string g.name, .int .i64 g.err, .int .i64 g.rate, dv, rv] ∧ g.name.size ≤ 9223372036854775807 ∧ I64 g.err ∧ I64 g.rate ∧ Sl w 3 RDatum dv g.datums ∧ Sl w 2 RRead rv g.readings
theorem RGauge.stays : Stays RGauge := fun _ _ _ _ e ⟨dv, rv, h1, h2, h3, h4, h5, h6⟩ => ⟨dv, rv, h1, h2, h3, h4, h5.ext RDatum.stays e, h6.ext RRead.stays e⟩
theorem RGauge.ext {w w' : World} {cs : List Value} {g : Gauge} (h : RGauge w cs g) (e : Ext w w') : RGauge w' cs g := RGauge.stays _ _ _ _ e h
def gErr (g : Gauge) : Int := if (!isName g.name) = true then 6 else if (outB g.err 0 5000 || outB g.rate 0 5000) = true then 7 else 0
theorem gErr_eq (g : Gauge) (g1 g2 : Nat) (k1 k2 : List Value) : firstE [⟨g1, k1, 6, !isName g.name⟩, ⟨g2, k2, 7, outB g.err 0 5000 || outB g.rate 0 5000⟩] = gErr g := rfl
def datBad (b : Int) (i : Nat) (d : Datum) : Bool := outB d.start (b + 1) 200000 || (decide ((i : Int) = 0) && decide (0 < d.start)) || outB d.shift.hi (-5000) 5000 || outB d.shift.lo (-5000) d.shift.hi
def readBad (b : Int) (r : Reading) : Bool := outB r.tick (b + 1) 200000 || outB r.value (-30000) 30000
def checkD (rest : Int × Int × Int) : List Datum → Int → Nat → Int × Int × Int
 | [], _, _ => rest
 | d :: ds, b, i => if datBad b i d = true then (2, i, 7) else checkD rest ds d.start (i + 1)
def checkR : List Reading → Int → Nat → Int × Int × Int
 | [], _, _ => (0, 0, 0)
 | r :: rs, b, i => if readBad b r = true then (3, i, 7) else checkR rs r.tick (i + 1)
def checkRs (g : Gauge) : Int × Int × Int := if (60 : Int) < g.readings.length then (3, 0, 3) else checkR g.readings (-1) 0
def checkG (g : Gauge) : Int × Int × Int := if gErr g ≠ 0 then (1, 0, gErr g) else if outB g.datums.length 1 8 = true then (2, 0, 3) else checkD (checkRs g) g.datums (-1) 0
theorem datBad_iff {b : Int} {i : Nat} {d : Datum} : datBad b i d = false ↔ b + 1 ≤ d.start ∧ d.start ≤ 200000 ∧ ((i : Int) = 0 → d.start ≤ 0) ∧ -5000 ≤ d.shift.lo ∧ d.shift.lo ≤ d.shift.hi ∧ d.shift.hi ≤ 5000 := by
 simp only [datBad, Bool.or_eq_false_iff, outB_false, Bool.and_eq_false_iff, decide_eq_false_iff_not]
 constructor
 ·
  rintro ⟨⟨⟨h1, h2⟩, h3⟩, h4⟩
  refine ⟨h1.1, h1.2, fun h => ?_, h4.1, h4.2, h3.2⟩
  rcases h2 with h2 | h2 <;> omega
 ·
  rintro ⟨h1, h2, h3, h4, h5, h6⟩
  refine ⟨⟨⟨⟨h1, h2⟩, ?_⟩, by omega⟩, by omega⟩
  by_cases h : (i : Int) = 0
  ·
   exact .inr (by have := h3 h; omega)
  ·
   exact .inl h
theorem readBad_iff {b : Int} {r : Reading} : readBad b r = false ↔ b + 1 ≤ r.tick ∧ r.tick ≤ 200000 ∧ -30000 ≤ r.value ∧ r.value ≤ 30000 := by
 simp only [readBad, Bool.or_eq_false_iff, outB_false]; omega
structure DatumOk (d : Datum) : Prop where
 start : Bd d.start 0 200000
 shift : -5000 ≤ d.shift.lo ∧ d.shift.lo ≤ d.shift.hi ∧ d.shift.hi ≤ 5000
structure ReadOk (r : Reading) : Prop where
 tick : Bd r.tick 0 200000
 value : Bd r.value (-30000) 30000
structure GaugeOk (g : Gauge) : Prop where
 err : Bd g.err 0 5000
 rate : Bd g.rate 0 5000
 len : 1 ≤ g.datums.length ∧ g.datums.length ≤ 8
 datums : ∀ d ∈ g.datums, DatumOk d
 first : ∀ d, g.datums[0]? = some d → d.start = 0
 asc : g.datums.Pairwise fun a b => a.start < b.start
 rlen : g.readings.length ≤ 60
 reads : ∀ r ∈ g.readings, ReadOk r
 rasc : g.readings.Pairwise fun a b => a.tick < b.tick
theorem checkR_ok : ∀ (rs : List Reading) (b : Int) (i : Nat), -1 ≤ b → (checkR rs b i).2.2 = 0 → (∀ r ∈ rs, ReadOk r ∧ b < r.tick) ∧ rs.Pairwise (fun a b => a.tick < b.tick)
  | [], _, _, _, _ => ⟨fun _ h => (by cases h), .nil⟩
  | r :: rs, b, i, hb, h => by
    unfold checkR at h
    split at h
    · exact absurd h (show ¬ (7 : Int) = 0 by decide)
    · rename_i h1
      rw [Bool.not_eq_true, readBad_iff] at h1
      have ih := checkR_ok rs r.tick (i + 1) (by omega) h
      refine ⟨?_, List.pairwise_cons.2 ⟨fun x hx => (ih.1 x hx).2, ih.2⟩⟩
      intro x hx
      rcases List.mem_cons.1 hx with rfl | hx
      · exact ⟨⟨⟨by omega, by omega⟩, ⟨by omega, by omega⟩⟩, by omega⟩
      · exact ⟨(ih.1 x hx).1, by have := (ih.1 x hx).2; omega⟩
theorem checkD_ok (rest : Int × Int × Int) : ∀ (ds : List Datum) (b : Int) (i : Nat), -1 ≤ b → (checkD rest ds b i).2.2 = 0 → rest.2.2 = 0 ∧ (∀ d ∈ ds, DatumOk d ∧ b < d.start) ∧ ds.Pairwise (fun a b => a.start < b.start) ∧ (i = 0 → ∀ d, ds[0]? = some d → d.start = 0)
  | [], _, _, _, h => ⟨h, fun _ h => (by cases h), .nil, fun _ d h => (by cases h)⟩
  | d :: ds, b, i, hb, h => by
    unfold checkD at h
    split at h
    · exact absurd h (show ¬ (7 : Int) = 0 by decide)
    · rename_i h1
      rw [Bool.not_eq_true, datBad_iff] at h1
      have ih := checkD_ok rest ds d.start (i + 1) (by omega) h
      refine ⟨ih.1, ?_, List.pairwise_cons.2 ⟨fun x hx => (ih.2.1 x hx).2, ih.2.2.1⟩, ?_⟩
      · intro x hx
        rcases List.mem_cons.1 hx with rfl | hx
        · exact ⟨⟨⟨by omega, by omega⟩, by omega⟩, by omega⟩
        · exact ⟨(ih.2.1 x hx).1, by have := (ih.2.1 x hx).2; omega⟩
      · intro hi x hx
        obtain rfl : d = x := by simpa using hx
        have := h1.2.2.1 (by omega)
        omega
theorem gaugeOk_of {g : Gauge} (h : (checkG g).2.2 = 0) : GaugeOk g := by
 unfold checkG at h
 split at h
 ·
  rename_i h1; exact absurd h h1
 rename_i h1
 split at h
 ·
  exact absurd h (by decide)
 rename_i h2
 rw [Bool.not_eq_true, outB_false] at h2
 have hd := checkD_ok _ _ _ _ (by omega) h
 obtain ⟨h3, h4, h5, h6⟩ := hd
 have he : gErr g = 0 := Decidable.not_not.1 h1
 unfold gErr at he
 split at he
 ·
  exact absurd he (by decide)
 split at he
 ·
  exact absurd he (by decide)
 rename_i h7
 simp only [Bool.not_eq_true, Bool.or_eq_false_iff, outB_false] at h7
 unfold checkRs at h3
 split at h3
 ·
  exact absurd h3 (by decide)
 rename_i h8
 have hr := checkR_ok _ _ _ (by omega) h3
 exact ⟨h7.1, h7.2, by omega, fun d hd => (h4 d hd).1, h6 rfl, h5, by omega, fun r hr' => (hr.1 r hr').1, hr.2⟩
def cntD (ds : List Datum) (t : Int) : Nat := (ds.takeWhile fun d => decide (d.start ≤ t)).length
def datI (ds : List Datum) (t : Int) : Nat := cntD ds t - 1
theorem cntD_le (ds : List Datum) (t : Int) : cntD ds t ≤ ds.length := (List.takeWhile_prefix _).length_le
theorem cntD_lt : ∀ (ds : List Datum) (t : Int) (i : Nat) (d : Datum), ds[i]? = some d → i < cntD ds t → d.start ≤ t
  | [], _, i, d, h, _ => by cases h
  | x :: ds, t, i, d, h, hi => by
    unfold cntD at hi
    rw [List.takeWhile_cons] at hi
    split at hi
    · rename_i hx
      cases i with
      | zero => obtain rfl : x = d := by simpa using h
                simpa using hx
      | succ i => exact cntD_lt ds t i d (by simpa using h) (by simpa [cntD] using hi)
    · simp at hi
theorem cntD_ge : ∀ (ds : List Datum) (t : Int) (i : Nat) (d : Datum), ds.Pairwise (fun a b => a.start < b.start) → ds[i]? = some d → cntD ds t ≤ i → t < d.start
  | [], _, i, d, _, h, _ => by cases h
  | x :: ds, t, i, d, hp, h, hi => by
    unfold cntD at hi
    rw [List.takeWhile_cons] at hi
    obtain ⟨h1, h2⟩ := List.pairwise_cons.1 hp
    split at hi
    · cases i with
      | zero => simp at hi
      | succ i => exact cntD_ge ds t i d h2 (by simpa using h) (by simpa [cntD] using hi)
    · rename_i hx
      have hx' : t < x.start := by simpa using hx
      cases i with
      | zero => obtain rfl : x = d := by simpa using h
                exact hx'
      | succ i =>
        have := h1 d (List.mem_of_getElem? (by simpa using h))
        omega
theorem cntD_pos {ds : List Datum} {t : Int} (h : 1 ≤ ds.length) (h0 : ∀ d, ds[0]? = some d → d.start = 0) (ht : 0 ≤ t) : 0 < cntD ds t := by
 cases ds with
 | nil => simp at h
 | cons x ds =>
  have := h0 x rfl
  unfold cntD
  rw [List.takeWhile_cons, if_pos (by simp; omega)]
  simp
theorem datI_lt {g : Gauge} (h : GaugeOk g) {t : Int} (ht : 0 ≤ t) : datI g.datums t < g.datums.length := by
 have h1 := cntD_pos h.len.1 h.first ht
 have h2 := cntD_le g.datums t
 unfold datI; omega
theorem asc_get {ds : List Datum} (h : ds.Pairwise fun a b => a.start < b.start) {i j : Nat} {a b : Datum} (hi : ds[i]? = some a) (hj : ds[j]? = some b) (hij : i < j) : a.start < b.start := by
 obtain ⟨h1, rfl⟩ := List.getElem?_eq_some_iff.1 hi
 obtain ⟨h2, rfl⟩ := List.getElem?_eq_some_iff.1 hj
 exact List.pairwise_iff_getElem.1 h i j h1 h2 hij
theorem asc_le {ds : List Datum} (h : ds.Pairwise fun a b => a.start < b.start) {i j : Nat} {a b : Datum} (hi : ds[i]? = some a) (hj : ds[j]? = some b) (hij : i ≤ j) : a.start ≤ b.start := by
 rcases Nat.lt_or_eq_of_le hij with h1 | rfl
 ·
  have := asc_get h hi hj h1; omega
 ·
  rw [hi] at hj; obtain rfl : a = b := by simpa using hj
  omega
def cmpI (a b : Int) : Int := if a < b then -1 else if b < a then 1 else 0
theorem cmpI_lt {a b : Int} : cmpI a b < 0 ↔ a < b := by unfold cmpI; split <;> (try split) <;> omega
theorem cmpI_eq {a b : Int} : cmpI a b = 0 ↔ a = b := by unfold cmpI; split <;> (try split) <;> omega
def searchD (ds : List Datum) (t : Int) (i : Nat) (is : Bool) : Prop := i ≤ ds.length ∧ (∀ k d, ds[k]? = some d → k < i → d.start < t) ∧ (∀ k d, ds[k]? = some d → i ≤ k → t ≤ d.start) ∧ (is = true ↔ ∃ d, ds[i]? = some d ∧ d.start = t)
theorem searchD_datI {ds : List Datum} {t : Int} {i : Nat} {is : Bool} (h : searchD ds t i is) (hp : ds.Pairwise fun a b => a.start < b.start) (hc : 0 < cntD ds t) : (if is = true then (i : Int) else (i : Int) - 1) = (datI ds t : Int) := by
 obtain ⟨h1, h2, h3, h4⟩ := h
 have hle := cntD_le ds t
 have hlt : ∀ k d, ds[k]? = some d → k < cntD ds t → d.start ≤ t := fun k d => cntD_lt ds t k d
 have hge : ∀ k d, ds[k]? = some d → cntD ds t ≤ k → t < d.start := fun k d => cntD_ge ds t k d hp
 have get : ∀ k, k < ds.length → ∃ d, ds[k]? = some d := fun k hk => ⟨ds[k], by simp [hk]⟩
 have hi : i ≤ cntD ds t := by
  rcases Nat.lt_or_ge (cntD ds t) i with h | h
  ·
   obtain ⟨d, hd⟩ := get (cntD ds t) (by omega)
   have a := h2 _ d hd h
   have b := hge _ d hd (Nat.le_refl _)
   omega
  ·
   exact h
 unfold datI
 cases is with
 | true =>
  obtain ⟨d, hd, e⟩ := h4.1 rfl
  have : i < cntD ds t := by
   rcases Nat.lt_or_ge i (cntD ds t) with h | h
   ·
    exact h
   ·
    have := hge _ d hd h; omega
  have : cntD ds t ≤ i + 1 := by
   rcases Nat.lt_or_ge (i + 1) (cntD ds t) with h | h
   ·
    obtain ⟨d', hd'⟩ := get (i + 1) (by omega)
    have a := hlt _ d' hd' h
    have b := asc_get hp hd hd' (by omega)
    omega
   ·
    exact h
  rw [if_pos rfl]; omega
 | false =>
  have : cntD ds t ≤ i := by
   rcases Nat.lt_or_ge i (cntD ds t) with h | h
   ·
    obtain ⟨d', hd'⟩ := get i (by omega)
    have a := hlt _ d' hd' h
    have b := h3 _ d' hd' (Nat.le_refl _)
    have := h4.2 ⟨d', hd', by omega⟩
    cases this
   ·
    exact h
  rw [if_neg (by decide)]; omega
def around (v e : Int) (s : Span) : Span := ⟨v - e - s.hi, v + e - s.lo⟩
def cutS (a b : Span) : Span := ⟨max a.lo b.lo, min a.hi b.hi⟩
def datS (g : Gauge) (t : Int) : Span := (g.datums.getD (datI g.datums t) ⟨0, ⟨0, 0⟩⟩).shift
def farR (g : Gauge) (t : Int) (r : Reading) : Int := g.rate * max (t - r.tick) (r.tick - t)
def readSpan (g : Gauge) (t : Int) (r : Reading) : Span := around r.value (g.err + farR g t r) (datS g r.tick)
def cuts (g : Gauge) (t : Int) (rs : List Reading) : Span := rs.foldl (fun s r => cutS s (readSpan g t r)) ⟨-20000, 20000⟩
def known (rs : List Reading) (now : Int) : List Reading := rs.filter fun r => decide (r.tick ≤ now)
def saysL (g : Gauge) (t : Int) (l : List Reading) : Span × Int := if l = [] then (⟨0, 0⟩, 4) else if (cuts g t l).hi < (cuts g t l).lo then (⟨0, 0⟩, 9) else (cuts g t l, 0)
def saysG (g : Gauge) (t now : Int) : Span × Int := saysL g t (known g.readings now)
theorem cuts_snoc (g : Gauge) (t : Int) (l : List Reading) (r : Reading) : cuts g t (l ++ [r]) = cutS (cuts g t l) (readSpan g t r) := by simp [cuts]
theorem datum_at {g : Gauge} (h : GaugeOk g) {t : Int} (ht : 0 ≤ t) : ∃ d, g.datums[datI g.datums t]? = some d ∧ d.shift = datS g t ∧ DatumOk d := by
 have hl := datI_lt h ht
 refine ⟨g.datums[datI g.datums t], by simp [hl], ?_, h.datums _ (List.getElem_mem _)⟩
 unfold datS
 rw [List.getD_eq_getElem?_getD, List.getElem?_eq_getElem hl]; rfl
theorem farR_bd {g : Gauge} (h : GaugeOk g) {t : Int} (ht : Bd t 0 200000) {r : Reading} (hr : ReadOk r) : Bd (farR g t r) 0 1000000000 := by
 have h1 := hr.tick
 have h2 := h.rate
 have h3 : 0 ≤ max (t - r.tick) (r.tick - t) ∧ max (t - r.tick) (r.tick - t) ≤ 200000 := by omega
 have := mul_bd (a := g.rate) (A := 5000) ⟨by omega, by omega⟩ h3 (by decide)
 have h0 : 0 ≤ farR g t r := Int.mul_nonneg h2.1 h3.1
 exact ⟨h0, by unfold farR; omega⟩
theorem known_all {rs : List Reading} {now : Int} (h : ∀ r ∈ rs, r.tick ≤ now) : known rs now = rs := List.filter_eq_self.2 fun r hr => decide_eq_true (h r hr)
theorem known_stop {rs : List Reading} {now : Int} (hp : rs.Pairwise fun a b => a.tick < b.tick) {k : Nat} {r : Reading} (hk : rs[k]? = some r) (h1 : ∀ x ∈ rs.take k, x.tick ≤ now) (h2 : now < r.tick) : known rs now = rs.take k := by
 obtain ⟨hl, rfl⟩ := List.getElem?_eq_some_iff.1 hk
 have e : rs = rs.take k ++ rs.drop k := (List.take_append_drop k rs).symm
 unfold known
 conv => lhs; rw [e]
 rw [List.filter_append, List.filter_eq_self.2 fun x hx => decide_eq_true (h1 x hx), List.filter_eq_nil_iff.2, List.append_nil]
 intro x hx
 have hx' : now < x.tick := by
  rw [List.drop_eq_getElem_cons hl] at hx
  rcases List.mem_cons.1 hx with rfl | hx
  ·
   exact h2
  ·
   have := List.pairwise_cons.1 ((List.drop_eq_getElem_cons hl) ▸ hp.drop (i := k))
   have := this.1 x hx
   omega
 simp; omega
theorem take_nil_iff {α : Type} {l : List α} {k : Nat} (hk : k ≤ l.length) : l.take k = [] ↔ k = 0 := by
 rw [← List.length_eq_zero_iff, List.length_take]; omega
theorem saysG_none {g : Gauge} {t now : Int} (h : known g.readings now = []) : saysG g t now = (⟨0, 0⟩, 4) := by unfold saysG saysL; rw [if_pos h]
theorem saysG_down {g : Gauge} {t now : Int} {l : List Reading} (h : known g.readings now = l) (hl : l ≠ []) (hc : (cuts g t l).hi < (cuts g t l).lo) : saysG g t now = (⟨0, 0⟩, 9) := by unfold saysG saysL; rw [h, if_neg hl, if_pos hc]
theorem saysG_ok {g : Gauge} {t now : Int} {l : List Reading} (h : known g.readings now = l) (hl : l ≠ []) (hc : ¬ (cuts g t l).hi < (cuts g t l).lo) : saysG g t now = (cuts g t l, 0) := by unfold saysG saysL; rw [h, if_neg hl, if_neg hc]
def gErrs : List Gauge → Int
 | [] => 0
 | g :: gs => if (checkG g).2.2 ≠ 0 then (checkG g).2.2 else gErrs gs
def namesG (l : List Gauge) : List ByteArray := l.map (·.name)
def gaugesE (l : List Gauge) (t now : Int) : Int := if (8 : Int) < l.length then 3 else if gErrs l ≠ 0 then gErrs l else if ¬ (namesG l).Nodup then 5 else ticksE [t, now]
theorem gErrs_take {l : List Gauge} {k : Nat} {g : Gauge} (hd : l.drop k = g :: l.drop (k + 1)) (hI : gErrs l = gErrs (l.drop k)) (h : (checkG g).2.2 = 0) : gErrs l = gErrs (l.drop (k + 1)) := by rw [hI, hd, gErrs, if_neg (fun h' => h' h)]
theorem gErrs_bad {l : List Gauge} {k : Nat} {g : Gauge} (hd : l.drop k = g :: l.drop (k + 1)) (hI : gErrs l = gErrs (l.drop k)) (h : (checkG g).2.2 ≠ 0) : gErrs l = (checkG g).2.2 := by rw [hI, hd, gErrs, if_pos h]
theorem names_take {l : List Gauge} {k : Nat} {g : Gauge} (h : l[k]? = some g) : namesG (l.take (k + 1)) = namesG (l.take k) ++ [g.name] := by unfold namesG; rw [take_snoc h, List.map_append]; rfl
theorem names_len (l : List Gauge) : (namesG l).length = l.length := List.length_map _
theorem fold_lo {α : Type} {f : α → Span} {x : Int} : ∀ (l : List α) (s : Span), (l.foldl (fun s r => cutS s (f r)) s).lo ≤ x ↔ s.lo ≤ x ∧ ∀ r ∈ l, (f r).lo ≤ x
  | [], s => by simp
  | a :: l, s => by
    rw [List.foldl_cons, fold_lo l]
    simp only [cutS, List.forall_mem_cons]
    constructor
    · rintro ⟨h1, h2⟩; exact ⟨by omega, by omega, h2⟩
    · rintro ⟨h1, h2, h3⟩; exact ⟨by omega, h3⟩
theorem fold_hi {α : Type} {f : α → Span} {x : Int} : ∀ (l : List α) (s : Span), x ≤ (l.foldl (fun s r => cutS s (f r)) s).hi ↔ x ≤ s.hi ∧ ∀ r ∈ l, x ≤ (f r).hi
  | [], s => by simp
  | a :: l, s => by
    rw [List.foldl_cons, fold_hi l]
    simp only [cutS, List.forall_mem_cons]
    constructor
    · rintro ⟨h1, h2⟩; exact ⟨by omega, by omega, h2⟩
    · rintro ⟨h1, h2, h3⟩; exact ⟨by omega, h3⟩
theorem cuts_lo {g : Gauge} {t x : Int} {l : List Reading} : (cuts g t l).lo ≤ x ↔ -20000 ≤ x ∧ ∀ r ∈ l, (readSpan g t r).lo ≤ x := fold_lo l _
theorem cuts_hi {g : Gauge} {t x : Int} {l : List Reading} : x ≤ (cuts g t l).hi ↔ x ≤ 20000 ∧ ∀ r ∈ l, x ≤ (readSpan g t r).hi := fold_hi l _
theorem cuts_level {g : Gauge} {t : Int} {l : List Reading} : -20000 ≤ (cuts g t l).lo ∧ (cuts g t l).hi ≤ 20000 :=
 ⟨((cuts_lo (g := g) (t := t) (l := l)).1 (Int.le_refl _)).1, ((cuts_hi (g := g) (t := t) (l := l)).1 (Int.le_refl _)).1⟩
theorem mem_known {rs : List Reading} {now : Int} {r : Reading} : r ∈ known rs now ↔ r ∈ rs ∧ r.tick ≤ now := by simp [known]
structure Truth where
 start : Int
 level : Int
 moves : List Int
 gaps : List Int
 shifts : List Int
 errs : List Int
def RTruth (w : World) (cs : List Value) (x : Truth) : Prop := ∃ mv gv sv ev, cs = [.int .i64 x.start, .int .i64 x.level, mv, gv, sv, ev] ∧ I64 x.start ∧ I64 x.level ∧ Sl w 1 RI8 mv x.moves ∧ Sl w 1 RU8 gv x.gaps ∧ Sl w 1 RU8 sv x.shifts ∧ Sl w 1 RI8 ev x.errs
theorem RTruth.ext {w w' : World} {cs : List Value} {x : Truth} (h : RTruth w cs x) (e : Ext w w') : RTruth w' cs x := by
 obtain ⟨mv, gv, sv, ev, h1, h2, h3, h4, h5, h6, h7⟩ := h
 exact ⟨mv, gv, sv, ev, h1, h2, h3, h4.ext RI8.stays e, h5.ext RU8.stays e, h6.ext RU8.stays e, h7.ext RI8.stays e⟩
structure At where
 wrong : Int
 tick : Int
 now : Int
structure Two where
 q : At
 a : Int
 b : Int
def wide (j : Nat) (c : Const) : Const := { c with slack := min 1000 (c.slack + 1 + j) }
def someE (a n : Int) : Int := if outB n 0 400 = true then 3 else if n = 0 then 0 else if outB a 0 200000 = true then 7 else ticksE [a + n - 1]
def levelsE (t : Table) (a n : Int) : Int := if (checkT t).2 = 0 then someE a n else (checkT t).2
def lvlsL (t : Table) (a : Int) (n : Nat) : List Span := (List.range n).map fun (i : Nat) => lvlT t (a + i)
def levelsF (t : Table) (a n : Int) : List Span := if levelsE t a n ≠ 0 then [] else lvlsL t a n.toNat
theorem someE_zero {a n : Int} (h : someE a n = 0) : Bd n 0 400 ∧ (n ≠ 0 → Bd a 0 200000 ∧ Bd (a + n - 1) 0 200000) := by
 unfold someE at h
 split at h
 ·
  exact absurd h (by decide)
 rename_i h1
 rw [Bool.not_eq_true, outB_false] at h1
 refine ⟨h1, fun hn => ?_⟩
 rw [if_neg hn] at h
 split at h
 ·
  exact absurd h (by decide)
 rename_i h2
 rw [Bool.not_eq_true, outB_false] at h2
 exact ⟨h2, ticks1 h⟩
theorem lvlsL_len (t : Table) (a : Int) (n : Nat) : (lvlsL t a n).length = n := by simp [lvlsL]
theorem levelsE_bad {t : Table} {a n : Int} (h : (checkT t).2 ≠ 0) : levelsE t a n = (checkT t).2 := by unfold levelsE; rw [if_neg h]
theorem levelsE_good {t : Table} {a n : Int} (h : (checkT t).2 = 0) : levelsE t a n = someE a n := by unfold levelsE; rw [if_pos h]
theorem levelsF_bad {t : Table} {a n : Int} (h : levelsE t a n ≠ 0) : levelsF t a n = [] := by unfold levelsF; rw [if_pos h]
theorem levelsF_good {t : Table} {a n : Int} (h : levelsE t a n = 0) : levelsF t a n = lvlsL t a n.toNat := by unfold levelsF; rw [if_neg (fun k => k h)]
theorem levelsE_zero {t : Table} {a n : Int} (h : levelsE t a n = 0) : (checkT t).2 = 0 ∧ Bd n 0 400 ∧ (n ≠ 0 → Bd a 0 200000 ∧ Bd (a + n - 1) 0 200000) := by
 by_cases h1 : (checkT t).2 = 0
 ·
  rw [levelsE_good h1] at h
  exact ⟨h1, someE_zero h⟩
 ·
  rw [levelsE_bad h1] at h
  exact absurd h h1
def canB (l : List Span) (i : Nat) : Bool := l.all fun s => decide (s.lo ≤ (l.getD i ⟨0, 0⟩).hi)
theorem share_bd {lo hi s : Int} (h : lo ≤ hi) (hs : Bd s 0 255) : lo ≤ lo + (hi - lo) * s / 255 ∧ lo + (hi - lo) * s / 255 ≤ hi := by
 have h1 : 0 ≤ (hi - lo) * s := Int.mul_nonneg (by omega) hs.1
 have h2 : (hi - lo) * s ≤ (hi - lo) * 255 := Int.mul_le_mul_of_nonneg_left hs.2 (by omega)
 have h3 : 0 ≤ (hi - lo) * s / 255 := Int.ediv_nonneg h1 (by decide)
 have h4 : (hi - lo) * s / 255 ≤ hi - lo := Int.ediv_le_of_le_mul (by decide) h2
 omega
structure Most (l : List Span) (lv : List Int) (k most : Nat) : Prop where
 len : lv.length = k
 mem : ∀ i, i < k → (l.getD i ⟨0, 0⟩).lo ≤ lv.getD i 0 ∧ lv.getD i 0 ≤ (l.getD i ⟨0, 0⟩).hi
 at_ : k = 0 ∧ most = 0 ∨ most < k
 top : ∀ i, i < k → lv.getD i 0 ≤ lv.getD most 0
theorem Most.here {l : List Span} {lv : List Int} {k most : Nat} {s : Span} {x : Int} (h : Most l lv k most) (hs : l[k]? = some s) (hx : s.lo ≤ x ∧ x ≤ s.hi) (hm : (lv ++ [x]).getD most 0 < x) : Most l (lv ++ [x]) (k + 1) k := by
 refine ⟨by simp [h.len], fun i hi => ?_, .inr (by omega), fun i hi => ?_⟩
 ·
  rw [getD_app h.len]
  split
  ·
   exact h.mem i (by assumption)
  ·
   obtain rfl : i = k := by omega
   rw [if_pos rfl, getD_hit hs]; exact hx
 ·
  rw [getD_app h.len] at hm
  rw [getD_app h.len, getD_app h.len, if_neg (Nat.lt_irrefl k), if_pos rfl]
  split
  ·
   rename_i h1
   have h2 := h.top i h1
   rcases h.at_ with ⟨h3, _⟩ | h3
   ·
    omega
   ·
    rw [if_pos h3] at hm; omega
  ·
   rw [if_pos (by omega)]; exact Int.le_refl _
theorem Most.can {l : List Span} {lv : List Int} {most : Nat} (h : Most l lv l.length most) (hne : l ≠ []) : most < l.length ∧ canB l most = true := by
 have hpos : 0 < l.length := List.length_pos_iff.2 hne
 have hm : most < l.length := by rcases h.at_ with ⟨h1, _⟩ | h1 <;> omega
 refine ⟨hm, ?_⟩
 unfold canB
 rw [List.all_eq_true]
 intro s hs
 obtain ⟨i, hi⟩ := List.getElem?_of_mem hs
 have hil := (List.getElem?_eq_some_iff.1 hi).1
 have h1 := h.mem i hil
 have h2 := h.top i hil
 have h3 := h.mem most hm
 rw [getD_hit hi] at h1
 rw [decide_eq_true_eq]
 omega
def nextL (rate l m : Int) : Int := max (-20000) (min 20000 (W64 (l + (W64 (rate * max m (-127))).tdiv 127)))
def lvS (rate lev : Int) (ms : List Int) : Nat → Int
 | 0 => lev
 | k + 1 => nextL rate (lvS rate lev ms k) (ms.getD k 0)
def atS (gaps : List Int) : Nat → Int
 | 0 => gaps.getD 0 0 % 8
 | i + 1 => atS gaps i + gaps.getD (i + 1) 0 % 8 + 1
def datK (ds : List Datum) (t : Int) : Nat → Nat
 | 0 => 0
 | k + 1 => if (ds.getD k ⟨0, ⟨0, 0⟩⟩).start ≤ t then k else datK ds t k
def shV (g : Gauge) (x : Truth) (d : Nat) (v : Int) : Int :=
 if d < g.datums.length then
  let s := (g.datums.getD d ⟨0, ⟨0, 0⟩⟩).shift
  if d < x.shifts.length then W64 (W64 (v + s.lo) + (W64 (W64 (s.hi - s.lo) * x.shifts.getD d 0)).tdiv 255) else W64 (v + s.lo)
 else v
def erV (g : Gauge) (x : Truth) (i : Nat) (v : Int) : Int := if i < x.errs.length then W64 (v + (W64 (g.err * max (x.errs.getD i 0) (-127))).tdiv 127) else v
def mkR (g : Gauge) (x : Truth) (i : Nat) : Reading := ⟨x.start + atS x.gaps i, erV g x i (shV g x (datK g.datums (x.start + atS x.gaps i) g.datums.length) (lvS g.rate x.level x.moves (atS x.gaps i).toNat))⟩
def mkRs (g : Gauge) (x : Truth) (k : Nat) : List Reading := (List.range k).map (mkR g x)
theorem atS_nonneg {gaps : List Int} : ∀ i, 0 ≤ atS gaps i
  | 0 => Int.emod_nonneg _ (by decide)
  | i + 1 => by
    have := atS_nonneg (gaps := gaps) i
    have := Int.emod_nonneg (gaps.getD (i + 1) 0) (show (8 : Int) ≠ 0 by decide)
    unfold atS; omega
structure TruthOk (x : Truth) : Prop where
 start : Bd x.start 0 199800
 len : x.moves.length < 150
 level : Bd x.level (-20000) 20000
theorem nextL_bd (rate l m : Int) : Bd (nextL rate l m) (-20000) 20000 := by unfold nextL; omega
theorem lvS_bd {rate lev : Int} (h : Bd lev (-20000) 20000) (ms : List Int) : ∀ k, Bd (lvS rate lev ms k) (-20000) 20000
 | 0 => h
 | k + 1 => nextL_bd _ _ _
theorem share127 {r m : Int} (hr : Bd r 0 5000) (hm : Bd m (-128) 127) : W64 (r * max m (-127)) = r * max m (-127) ∧ Bd ((r * max m (-127)).tdiv 127) (-r) r := by
 have h1 : r * max m (-127) ≤ r * 127 := Int.mul_le_mul_of_nonneg_left (by omega) hr.1
 have h2 : r * (-127) ≤ r * max m (-127) := Int.mul_le_mul_of_nonneg_left (by omega) hr.1
 refine ⟨wrap_in ⟨by omega, by omega⟩, tdiv_abs (by decide) ⟨by omega, by omega⟩⟩
theorem nextL_near {r l m : Int} (hr : Bd r 0 5000) (hm : Bd m (-128) 127) (hl : Bd l (-20000) 20000) : Bd (nextL r l m - l) (-r) r := by
 obtain ⟨h1, h2⟩ := share127 hr hm
 unfold nextL
 rw [h1, w64_in (a := l + (r * max m (-127)).tdiv 127) ⟨by omega, by omega⟩]
 exact ⟨by omega, by omega⟩
theorem getD_mem_bd {l : List Int} {lo hi : Int} (h : ∀ x ∈ l, Bd x lo hi) (h0 : Bd 0 lo hi) (i : Nat) : Bd (l.getD i 0) lo hi := by
 rw [List.getD_eq_getElem?_getD]
 cases hx : l[i]? with
 | none => exact h0
 | some x => exact h x (List.mem_of_getElem? hx)
theorem lvS_near {r lev : Int} {ms : List Int} (hr : Bd r 0 5000) (hms : ∀ m ∈ ms, Bd m (-128) 127) (hl : Bd lev (-20000) 20000) (i : Nat) : ∀ k, Bd (lvS r lev ms (i + k) - lvS r lev ms i) (-(r * k)) (r * k)
  | 0 => by simp
  | k + 1 => by
    have ih := lvS_near hr hms hl i k
    have h1 := nextL_near hr (getD_mem_bd hms (show Bd 0 (-128) 127 by decide) (i + k)) (lvS_bd (rate := r) hl ms (i + k))
    have e : lvS r lev ms (i + (k + 1)) = nextL r (lvS r lev ms (i + k)) (ms.getD (i + k) 0) := rfl
    rw [e]
    have e2 : r * ((k + 1 : Nat) : Int) = r * k + r := by rw [show ((k + 1 : Nat) : Int) = (k : Int) + 1 from rfl, Int.mul_add, Int.mul_one]
    rw [e2]
    exact ⟨by omega, by omega⟩
theorem lvS_far {r lev : Int} {ms : List Int} (hr : Bd r 0 5000) (hms : ∀ m ∈ ms, Bd m (-128) 127) (hl : Bd lev (-20000) 20000) (i j : Nat) : Bd (lvS r lev ms i - lvS r lev ms j) (-(r * max ((i : Int) - j) (j - i))) (r * max ((i : Int) - j) (j - i)) := by
 rcases Nat.le_total i j with h | h
 ·
  have := lvS_near hr hms hl i (j - i)
  rw [show i + (j - i) = j by omega] at this
  rw [show max ((i : Int) - j) (j - i) = ((j - i : Nat) : Int) by omega]
  exact ⟨by omega, by omega⟩
 ·
  have := lvS_near hr hms hl j (i - j)
  rw [show j + (i - j) = i by omega] at this
  rw [show max ((i : Int) - j) (j - i) = ((i - j : Nat) : Int) by omega]
  exact this
theorem datK_eq {ds : List Datum} {t : Int} (hp : ds.Pairwise fun a b => a.start < b.start) : ∀ k, k ≤ ds.length → datK ds t k = min k (cntD ds t) - 1
  | 0, _ => by simp [datK]
  | k + 1, h => by
    have ih := datK_eq (t := t) hp k (by omega)
    obtain ⟨d, hd⟩ : ∃ d, ds[k]? = some d := ⟨ds[k], by simp [show k < ds.length by omega]⟩
    unfold datK
    rw [getD_hit hd]
    split
    · rename_i h1
      have : k < cntD ds t := Nat.lt_of_not_le fun h2 => by have := cntD_ge ds t k d hp hd h2; omega
      omega
    · rename_i h1
      have : cntD ds t ≤ k := Nat.le_of_not_lt fun h2 => h1 (cntD_lt ds t k d hd h2)
      omega
theorem datK_datI {g : Gauge} (h : GaugeOk g) {t : Int} : datK g.datums t g.datums.length = datI g.datums t := by
 rw [datK_eq h.asc _ (Nat.le_refl _)]
 have := cntD_le g.datums t
 unfold datI; omega
def shN (g : Gauge) (x : Truth) (d : Nat) : Int :=
 let s := (g.datums.getD d ⟨0, ⟨0, 0⟩⟩).shift
 if d < x.shifts.length then s.lo + (s.hi - s.lo) * x.shifts.getD d 0 / 255 else s.lo
theorem shN_bd {g : Gauge} {x : Truth} {d : Nat} {e : Datum} (hd : g.datums[d]? = some e) (he : DatumOk e) (hs : ∀ s ∈ x.shifts, Bd s 0 255) : e.shift.lo ≤ shN g x d ∧ shN g x d ≤ e.shift.hi := by
 unfold shN
 rw [getD_hit hd]
 have h := he.shift
 simp only []
 split
 ·
  exact share_bd h.2.1 (getD_mem_bd hs (by decide) d)
 ·
  omega
theorem shV_eq {g : Gauge} {x : Truth} {d : Nat} {v : Int} {e : Datum} (hd : g.datums[d]? = some e) (he : DatumOk e) (hs : ∀ s ∈ x.shifts, Bd s 0 255) (hv : Bd v (-20000) 20000) : shV g x d v = v + shN g x d := by
 have h := he.shift
 have hlt := (List.getElem?_eq_some_iff.1 hd).1
 unfold shV shN
 rw [if_pos hlt, getD_hit hd]
 simp only []
 split
 ·
  have hb := getD_mem_bd hs (show Bd 0 0 255 by decide) d
  have h1 : 0 ≤ (e.shift.hi - e.shift.lo) * x.shifts.getD d 0 := Int.mul_nonneg (by omega) hb.1
  have h2 : (e.shift.hi - e.shift.lo) * x.shifts.getD d 0 ≤ (e.shift.hi - e.shift.lo) * 255 := Int.mul_le_mul_of_nonneg_left hb.2 (by omega)
  have h3 := share_bd h.2.1 hb
  rw [w64_in (a := e.shift.hi - e.shift.lo) ⟨by omega, by omega⟩, w64_in (a := (e.shift.hi - e.shift.lo) * x.shifts.getD d 0) ⟨by omega, by omega⟩, Int.tdiv_eq_ediv_of_nonneg h1, w64_in (a := v + e.shift.lo) ⟨by omega, by omega⟩, w64_in ⟨by omega, by omega⟩]
  omega
 ·
  rw [w64_in ⟨by omega, by omega⟩]
theorem erV_eq {g : Gauge} {x : Truth} {i : Nat} {v : Int} (he : Bd g.err 0 5000) (hs : ∀ s ∈ x.errs, Bd s (-128) 127) (hv : Bd v (-40000) 40000) : Bd (erV g x i v - v) (-g.err) g.err := by
 unfold erV
 split
 ·
  obtain ⟨h1, h2⟩ := share127 he (getD_mem_bd hs (show Bd 0 (-128) 127 by decide) i)
  rw [h1, w64_in ⟨by omega, by omega⟩]
  exact ⟨by omega, by omega⟩
 ·
  exact ⟨by omega, by omega⟩
structure Made (g : Gauge) (x : Truth) (y : Gauge) (K : Nat) : Prop where
 tr : TruthOk x
 y_eq : y = { g with readings := mkRs g x K }
 at_ : ∀ i, i < K → atS x.gaps i < x.moves.length + 1
structure SharesOk (x : Truth) : Prop where
 moves : ∀ m ∈ x.moves, Bd m (-128) 127
 shifts : ∀ s ∈ x.shifts, Bd s 0 255
 errs : ∀ s ∈ x.errs, Bd s (-128) 127
theorem Made.reading {g : Gauge} {x : Truth} {y : Gauge} {K : Nat} (h : Made g x y K) (hs : SharesOk x) (hy : GaugeOk y) {r : Reading} (hr : r ∈ y.readings) {i : Nat} :
    (readSpan y (x.start + i) r).lo ≤ lvS y.rate x.level x.moves i ∧ lvS y.rate x.level x.moves i ≤ (readSpan y (x.start + i) r).hi := by
  obtain ⟨htr, rfl, hat⟩ := h
  obtain ⟨j, hj, rfl⟩ := List.mem_map.1 hr
  rw [List.mem_range] at hj
  have h0 := atS_nonneg (gaps := x.gaps) j
  obtain ⟨n, hn⟩ := Int.eq_ofNat_of_zero_le h0
  have hlb := lvS_bd (rate := g.rate) htr.level x.moves n
  have hfar := lvS_far hy.rate hs.moves htr.level i n
  have hst := htr.start
  obtain ⟨d, hd1, hd2, hd3⟩ := datum_at hy (t := x.start + (n : Int)) (by omega)
  have hd1 : g.datums[datI g.datums (x.start + (n : Int))]? = some d := hd1
  have hsh := shV_eq (g := g) (x := x) (v := lvS g.rate x.level x.moves n) hd1 hd3 hs.shifts hlb
  have hsn := shN_bd (g := g) (x := x) hd1 hd3 hs.shifts
  have hdb := hd3.shift
  have her := erV_eq (g := g) (x := x) (i := j) (v := lvS g.rate x.level x.moves n + shN g x (datI g.datums (x.start + (n : Int)))) hy.err hs.errs ⟨by omega, by omega⟩
  have hk : datK g.datums (x.start + (n : Int)) g.datums.length = datI g.datums (x.start + (n : Int)) := datK_datI (g := { g with readings := mkRs g x K }) hy
  have hmk : mkR g x j = ⟨x.start + (n : Int), erV g x j (lvS g.rate x.level x.moves n + shN g x (datI g.datums (x.start + (n : Int))))⟩ := by
    unfold mkR
    rw [hn, hk, Int.toNat_natCast, hsh]
  rw [hmk]
  generalize erV g x j (lvS g.rate x.level x.moves n + shN g x (datI g.datums (x.start + (n : Int)))) = v at her
  unfold readSpan around farR
  rw [← hd2]
  simp only []
  have e1 : max (x.start + (i : Int) - (x.start + (n : Int))) (x.start + (n : Int) - (x.start + (i : Int))) = max ((i : Int) - n) (n - i) := by omega
  rw [e1]
  have hfar' : Bd (lvS g.rate x.level x.moves i - lvS g.rate x.level x.moves n) (-(g.rate * max ((i : Int) - n) (n - i))) (g.rate * max ((i : Int) - n) (n - i)) := hfar
  have hge : Bd (v - (lvS g.rate x.level x.moves n + shN g x (datI g.datums (x.start + (n : Int))))) (-g.err) g.err := her
  generalize g.rate * max ((i : Int) - n) (n - i) = far at hfar' ⊢
  generalize shN g x (datI g.datums (x.start + (n : Int))) = sh at *
  generalize lvS g.rate x.level x.moves i = li at *
  generalize lvS g.rate x.level x.moves n = ln at *
  constructor
  · show v - (g.err + far) - d.shift.hi ≤ li
    omega
  · show li ≤ v + (g.err + far) - d.shift.lo
    omega
theorem Made.cuts {g : Gauge} {x : Truth} {y : Gauge} {K : Nat} (h : Made g x y K) (hs : SharesOk x) (hy : GaugeOk y) (i : Nat) (now : Int) :
    (cuts y (x.start + i) (known y.readings now)).lo ≤ lvS y.rate x.level x.moves i ∧ lvS y.rate x.level x.moves i ≤ (cuts y (x.start + i) (known y.readings now)).hi := by
  have hb := lvS_bd (rate := y.rate) h.tr.level x.moves i
  rw [cuts_lo, cuts_hi]
  exact ⟨⟨hb.1, fun r hr => (h.reading hs hy (mem_known.1 hr).1).1⟩, ⟨hb.2, fun r hr => (h.reading hs hy (mem_known.1 hr).1).2⟩⟩
def spkF (t now : Int) : List Gauge → Int → List (Int × Span)
 | [], _ => []
 | g :: gs, i => if (saysG g t now).2 = 0 then (i, (saysG g t now).1) :: spkF t now gs (i + 1) else spkF t now gs (i + 1)
abbrev spk (t now : Int) (l : List Gauge) : List (Int × Span) := spkF t now l 0
theorem spkF_app (t now : Int) : ∀ (a b : List Gauge) (i : Int), spkF t now (a ++ b) i = spkF t now a i ++ spkF t now b (i + a.length)
  | [], b, i => by simp [spkF]
  | g :: a, b, i => by
    rw [List.cons_append]
    simp only [spkF, spkF_app t now a b (i + 1), List.length_cons]
    rw [show i + 1 + (a.length : Int) = i + ((a.length + 1 : Nat) : Int) by omega]
    split <;> simp
theorem spk_take {t now : Int} {l : List Gauge} {k : Nat} {g : Gauge} (h : l[k]? = some g) : spk t now (l.take (k + 1)) = spk t now (l.take k) ++ (if (saysG g t now).2 = 0 then [((k : Int), (saysG g t now).1)] else []) := by
 have hk : k < l.length := (List.getElem?_eq_some_iff.1 h).1
 rw [take_snoc h, spk, spkF_app, show (l.take k).length = k by simp; omega]
 simp only [spkF, Int.zero_add]
theorem spk_pre {t now : Int} {l : List Gauge} {k : Nat} {g : Gauge} (h : l[k]? = some g) (hs : (saysG g t now).2 = 0) : spk t now (l.take k) ++ [((k : Int), (saysG g t now).1)] <+: spk t now l := by
 have h1 := spk_take (t := t) (now := now) h
 rw [if_pos hs] at h1
 rw [← h1]
 refine ⟨spkF t now (l.drop (k + 1)) ((l.take (k + 1)).length : Int), ?_⟩
 have := spkF_app t now (l.take (k + 1)) (l.drop (k + 1)) 0
 rw [List.take_append_drop, Int.zero_add] at this
 exact this.symm
abbrev spC (x : Int × Span) : List Value := [.int .i64 x.1, .agg (spanC x.2).toArray]
def orF : List Int → Int
 | [] => 0
 | x :: l => if x = 0 then orF l else x
def cmpE (x y : Int × Int) : Int := orF [cmpI x.1 y.1, cmpI x.2 y.2]
abbrev encE (x : Int × Int) : List Value := [.int .i64 x.1, .int .i64 x.2]
def ltE (x y : Int × Int) : Bool := decide (x.1 < y.1 ∨ (x.1 = y.1 ∧ x.2 < y.2))
theorem cmpE_lt (x y : Int × Int) : decide (cmpE x y < 0) = ltE x y := by
 unfold cmpE ltE orF orF orF cmpI
 rw [decide_eq_decide]
 by_cases h1 : x.1 < y.1
 ·
  simp [h1]
 ·
  by_cases h2 : y.1 < x.1
  ·
   simp [h1, h2]; omega
  ·
   by_cases h3 : x.2 < y.2
   ·
    simp [h1, h2, h3]; omega
   ·
    by_cases h4 : y.2 < x.2
    ·
     simp [h1, h2, h3, h4]
    ·
     simp [h1, h2, h3, h4]
theorem ltE_irr (x : Int × Int) : ltE x x = false := by simp [ltE]
theorem ltE_trans (x y z : Int × Int) (h : ltE x y = true) (k : ltE y z = true) : ltE x z = true := by
 simp only [ltE, decide_eq_true_eq] at *; omega
theorem ltE_ntrans (x y z : Int × Int) (h : ltE x y = false) (k : ltE y z = false) : ltE x z = false := by
 simp only [ltE, decide_eq_false_iff_not] at *; omega
theorem ltE_tot (x y : Int × Int) (h : ltE x y = false) (k : ltE y x = false) : x = y := by
 simp only [ltE, decide_eq_false_iff_not] at *
 exact Prod.ext (by omega) (by omega)
section
variable {P : Program} {ops : Array Oper} {Q : Exit → Act → World → Prop} {n : Nat} {f : Fr} {w : World} {C : World → Prop} {K : Act → Prop} {rest : List Oper} {d : Nat} {ty : TypeId} {pos : String} {af : Array Edge} {ρ : Operand → Value}
theorem yBoxW {T : TypeId} {x : Operand} {v : Value} {cs : List Value} (hx : ρ x = v) (hc : v.cells.toList = cs) : Y P ρ (.box T x) ty w (.pointer (some ⟨w.heap.size, 0, none⟩)) (w.alloc (.cells cs.toArray T (0, 0))) := by
 subst hx hc
 simp [Y, xop, execOp, Instr.box, newVar, newRow]
theorem yBSW {T E : TypeId} {len sz : Nat} {ps : List (Nat × Operand)} {z : Value} {r : List Value} {vs : List (Nat × List Value)} (hT : P.underlying T = some (.slice E)) (hs : ∀ w, (Go.sizeOf E).run P w = .ok sz w) (hbig : Nat.ble (len * sz) 16777216 = true)
    (hz : ∀ w, (zeroValue E).run P w = .ok z w) (hpos : Nat.beq (len * sz) 0 = false) (hv : PartsAre ρ ps vs) (hf : fillL (fun i => some (i * sz, sz)) ((List.range (len * sz)).map (fun i => z.cells[i % z.cells.size]!)) vs = some r) :
    Y P ρ (.buildSlice T len ps.toArray) ty w (.slice (some ⟨w.heap.size, 0, none⟩) len len) (w.alloc (.cells r.toArray E (0, 0))) := by
  have hb : ¬ (2 ^ 24 < len * sz) := by rw [Nat.ble_eq] at hbig; omega
  have hp : len * sz ≠ 0 := fun e => by rw [e] at hpos; cases hpos
  have hfl := fill_eq (fun i => some (i * sz, sz)) ((ps.toArray.map fun (i, x) => (i, ρ x)).toList) ((Array.range (len * sz)).map (fun i => z.cells[i % z.cells.size]!)) r (by
    rw [map_parts, hv, Array.toList_map, Array.toList_range]; exact hf)
  simp only [Y, xop, execOp, Instr.buildSlice, Sem.run_bind, run_underlying hT, Result.andThen_ok, hs, Sem.run_ite, gt_iff_lt, hb, hp, if_false, hz, Sem.run_pure, hfl]
  simp [newRow]
def wpC (P : Program) (ops : Array Oper) (C : World → Prop) (K : Act → Prop) (n : Nat) (l : List Oper) (f : Fr) : Prop := wpQuiet P ops C K l (mk n f)
theorem qvC {op : Op} {v : Value} (hr : ∀ w, C w → Y P (ev n f) op ty w v w) (h : wpC P ops C K n rest (upd f d v)) : wpC P ops C K n (⟨some d, op, ty, pos, af, none⟩ :: rest) f := by
 unfold wpC
 unfold wpQuiet
 rw [if_pos (by simp [Region.wanted])]
 refine ⟨v, fun w hw => ?_, ?_⟩
 ·
  unfold Oper.quietAt
  rw [mk_eval, execOp_xop, hr w hw]
  exact ⟨rfl, rfl⟩
 ·
  show wpQuiet _ _ _ _ _ ((mk n f).put (some d) v)
  rw [mk_put]
  exact h
theorem qcallC {g : FuncId} {xs : List Operand} {ts : Array TypeId} {vs : List Value} {v : Value} (hc : ∀ ars w, (callFunc g ars).run P w = .ok (.enter g ars) w) (ha : Evs (ev n f) xs vs) (hC : ∀ w, C w → CE P g vs.toArray w fun u w' => u = v ∧ C w')
    (h : wpC P ops C K n rest (upd f d v)) : wpC P ops C K n (⟨some d, .call ⟨.value (.func g), xs.toArray, ts⟩, ty, pos, af, none⟩ :: rest) f := by
  have hr : ∀ w, (xop (ev n f) (.call ⟨.value (.func g), xs.toArray, ts⟩) ty).run P w = .ok (.enter g vs.toArray) w := fun w => by
    have hr := enter_run (P := P) (ρ := ev n f) (w := w) (ty := ty) (ts := ts) (fx := .func g) rfl ha hc
    rw [Array.append_empty] at hr
    exact hr
  unfold wpC
  unfold wpQuiet
  rw [if_pos (by simp [Region.wanted])]
  refine ⟨v, fun w hw => ?_, ?_⟩
  · unfold Oper.quietAt
    rw [mk_eval, execOp_xop, hr w]
    refine ⟨rfl, Calls.mono (hC w hw) ?_⟩
    rintro e w' ⟨u, rfl, rfl, he⟩
    exact ⟨rfl, he⟩
  · show wpQuiet _ _ _ _ _ ((mk n f).put (some d) v)
    rw [mk_put]
    exact h
theorem region_tailC (C : World → Prop) {id : Nat} {l : List Oper} (hm : P.follows .mixedOrders = true) (m : Nat) (hB : tailB l.toArray m = true) (hC : C { w with drawn := w.drawn + 1 })
    (h : wpC P (headOf l.toArray m) C (fun a => ∀ w', C w' → wpList P l.toArray Q (l.drop m) a w') n (l.take m) f) : (Code.region id l.toArray true).wp P Q (mk n f) w :=
  wp_region_tail (C := C) hm m hB hC h
theorem qtlC {ops' : Array Oper} {tl : List Oper} (h : ∀ w', C w' → wpL P ops Q n tl f w') : wpC P ops' C (fun a => ∀ w', C w' → wpList P ops Q tl a w') n [] f := h
end
theorem grow3 (w : World) (q : Nat) (a b c : Obj) : (((w.alloc a).alloc b).drewN q).alloc c = Sort.grow (w.drewN q) #[a, b, c] := by
 rw [Sort.alloc_eq_grow, Sort.alloc_eq_grow, Sort.alloc_eq_grow, Sort.grow_grow]
 show Sort.grow (Sort.grow (w.drewN q) _) _ = _
 rw [Sort.grow_grow]; rfl
theorem flat_encE (l : List (Int × Int)) : (Sort.flatK encE 2 l.toArray).toList = l.flatMap encE := by
  apply List.ext_getElem?
  intro t
  have hlen : (l.flatMap encE).length = l.length * 2 := by
    induction l with
    | nil => rfl
    | cons a l ih => simp only [List.flatMap_cons, List.length_append, ih, List.length_cons]; simp [encE]; omega
  by_cases ht : t < l.length * 2
  · have h1 : (Sort.flatK encE 2 l.toArray).toList[t]? = some ((encE l.toArray[t / 2]!)[t % 2]!) := by
      have := Sort.get_flatK encE 2 l.toArray t (by simpa using ht)
      rw [Array.getElem?_toList, Array.getElem?_eq_getElem (by simpa using ht)]
      rw [getElem!_pos _ t (by simpa using ht)] at this
      rw [this]
    rw [h1]
    have hd : t / 2 < l.length := by omega
    have hx : l[t / 2]? = some l[t / 2] := List.getElem?_eq_getElem hd
    have hx2 : l.toArray[t / 2]! = l[t / 2] := by rw [getElem!_pos _ _ (by simpa using hd)]; simp
    rw [hx2]
    have hm : t % 2 < (encE l[t / 2]).length := by simp [encE]; omega
    have := flat2 (enc := encE) (fun _ => rfl) hx (t % 2) (v := (encE l[t / 2])[t % 2]!) (by rw [List.getElem?_eq_getElem hm]; exact congrArg some (getElem!_pos (encE l[t / 2]) (t % 2) hm).symm)
    rw [show t / 2 * 2 + t % 2 = t by omega] at this
    exact this.symm
  · rw [List.getElem?_eq_none (by simp; omega), List.getElem?_eq_none (by omega)]
theorem putCells_take {cur F : Array Value} (h : F.size ≤ cur.size) : (Sort.putCells id 0 F cur).toList.take F.size = F.toList ∧ (Sort.putCells id 0 F cur).size = cur.size := by
 refine ⟨?_, by simp [Sort.putCells]⟩
 apply List.ext_getElem?
 intro t
 by_cases ht : t < F.size
 ·
  rw [List.getElem?_take_of_lt ht, Array.getElem?_toList, Array.getElem?_toList]
  simp only [Sort.putCells, Array.getElem?_mapIdx]
  have h1 : cur[t]? = some cur[t] := Array.getElem?_eq_getElem (by omega)
  rw [h1]
  simp only [Option.map_some]
  rw [if_pos ⟨Nat.zero_le _, by omega⟩, Nat.sub_zero, getElem!_pos F t ht, Array.getElem?_eq_getElem ht]
  rfl
 ·
  rw [List.getElem?_eq_none (by simp; omega), List.getElem?_eq_none (by simp; omega)]
theorem sort_row {w : World} {E : TypeId} {g cap n m : Nat} {cur : Array Value} {os : Array Obj} {l : List (Int × Int)} (hg : w.heap[g]? = some (.cells cur E (0, 0))) (hcs : cur.size = cap * 2) (hn : n ≤ cap) (hc : cap ≤ maxLen) (hl : l.length = n) :
    (Go.Proofs.sortWorldK encE 2 w g 0 m l.toArray os).ownsRow 0 E 2 (.slice (some ⟨g, 0, none⟩) n cap) n (l.flatMap encE) ∧ w.grownBy (Go.Proofs.sortWorldK encE 2 w g 0 m l.toArray os) (some g) := by
  have hlt := lt_of_heap hg
  have hF : (Sort.flatK encE 2 l.toArray).size = n * 2 := by simp [hl]
  obtain ⟨h1, h2⟩ := putCells_take (cur := cur) (F := Sort.flatK encE 2 l.toArray) (by rw [hF, hcs]; omega)
  have hH : (Go.Proofs.sortWorldK encE 2 w g 0 m l.toArray os).heap = w.heap.modify g (Sort.onCells (Sort.putCells id 0 (Sort.flatK encE 2 l.toArray))) ++ os := rfl
  have hsz : (w.heap.modify g (Sort.onCells (Sort.putCells id 0 (Sort.flatK encE 2 l.toArray)))).size = w.heap.size := by simp
  refine ⟨⟨?_, .inr ⟨g, cap, Sort.putCells id 0 (Sort.flatK encE 2 l.toArray) cur, rfl, Nat.zero_le _, ?_, hn, hc, ?_, ?_⟩⟩, ⟨rfl, rfl, rfl, ?_, ?_⟩⟩
  · rw [← flat_encE, Array.length_toList, hF]
  · rw [hH, Array.getElem?_append, if_pos (by rw [hsz]; exact hlt), Array.getElem?_modify, if_pos rfl, hg]
    rfl
  · rw [h2, hcs]
  · rw [← flat_encE, ← h1, hF]
  · rw [hH, Array.size_append, hsz]; omega
  · intro k hk hne
    rw [hH, Array.getElem?_append, if_pos (by rw [hsz]; exact hk), Array.getElem?_modify, if_neg (fun e => hne (by rw [e]))]
theorem holds_row {w : World} {E : TypeId} {g cap n : Nat} {cur : Array Value} {l : List (Int × Int)} (hg : w.heap[g]? = some (.cells cur E (0, 0))) (hcs : cur.size = cap * 2) (hn : n ≤ cap) (hl : l.length = n) (ht : cur.toList.take (n * 2) = l.flatMap encE) :
    Sort.HoldsK encE 2 w g 0 l.toArray := by
  intro j hj
  have hF : (Sort.flatK encE 2 l.toArray).size = n * 2 := by simp [hl]
  rw [hF] at hj
  have hc : cur[j]? = some (Sort.flatK encE 2 l.toArray)[j]! := by
    have h1 : (cur.toList.take (n * 2))[j]? = (Sort.flatK encE 2 l.toArray).toList[j]? := by rw [ht, flat_encE]
    rw [List.getElem?_take_of_lt hj, Array.getElem?_toList, Array.getElem?_toList] at h1
    rw [h1, Array.getElem?_eq_getElem (by omega), getElem!_pos _ j (by omega)]
  refine ⟨?_, ?_⟩
  · simp [World.cell?, hg, hc]
  · simp [World.frozen?, hg]
theorem yIxV {P : Program} {ρ : Operand → Value} {w : World} {ty : TypeId} {x i : Operand} {T E : TypeId} {n m : Nat} {k : IntKind} {cs : List Value} {v : Value} (hx : ρ x = .agg cs.toArray) (hi : ρ i = .int k (m : Int)) (hu : P.underlying T = some (.array n E))
    (hs : ∀ w, (Go.sizeOf E).run P w = .ok 1 w) (ha : ∀ w, (isAgg E).run P w = .ok false w) (hm : m < n) (hv : cs[m]? = some v) : Y P ρ (.index T x i) ty w v w := by
  have h1 : (0 : Int) ≤ (m : Int) ∧ (m : Int) < (n : Int) := ⟨by omega, by omega⟩
  have hv' : cs.toArray[m]? = some v := by simpa using hv
  simp [Y, xop, execOp, Instr.index, asIntOf, hx, hi, run_underlying hu, Sem.run_bind, Result.andThen_ok, h1, hs w, part, ha w, hv', hv, hm]
theorem yBuildA {P : Program} {ρ : Operand → Value} {w : World} {ty : TypeId} {T E : TypeId} {n sz : Nat} {ps : List (Nat × Operand)} {z : Value} {zs r : List Value} {vs : List (Nat × List Value)} (hz : ∀ w, (zeroValue T).run P w = .ok z w) (hzs : z.cells.toList = zs)
    (hu : P.underlying T = some (.array n E)) (hs : ∀ w, (Go.sizeOf E).run P w = .ok sz w) (hv : PartsAre ρ ps vs) (hf : fillL (fun i => some (i * sz, sz)) zs vs = some r) : Y P ρ (.build T ps.toArray) ty w (.agg r.toArray) w := by
  have h := fill_eq (fun i => some (i * sz, sz)) ((ps.toArray.map fun (i, x) => (i, ρ x)).toList) z.cells r (by rw [map_parts, hv, hzs]; exact hf)
  simp only [Y, xop, execOp, Instr.build, Sem.run_bind, hz, Result.andThen_ok, run_underlying hu, hs, h]
  rfl
def endsOf (s : Span) : List (Int × Int) := [(s.lo, 0), (s.hi + 1, 1)]
def endsF (l : List (Int × Span)) : List (Int × Int) := l.flatMap fun x => endsOf x.2
theorem endsF_snoc (l : List (Int × Span)) (x : Int × Span) : endsF (l ++ [x]) = endsF l ++ endsOf x.2 := by simp [endsF]
theorem endsF_len (l : List (Int × Span)) : (endsF l).length = 2 * l.length := by
 induction l with
 | nil => rfl
 | cons a l ih => simp only [endsF, List.flatMap_cons, List.length_append, List.length_cons] at *; rw [ih]; simp [endsOf]; omega
def sortE (l : List (Int × Int)) : List (Int × Int) := l.mergeSort fun x y => !(ltE y x)
theorem sortE_len (l : List (Int × Int)) : (sortE l).length = l.length := by simp [sortE]
def piecesL : List (Int × Int) → Int → List (Span × Int)
 | [], _ => []
 | [_], _ => []
 | x :: y :: r, m => if x.1 < y.1 then (⟨x.1, y.1 - 1⟩, m + (1 - 2 * x.2)) :: piecesL (y :: r) (m + (1 - 2 * x.2)) else piecesL (y :: r) (m + (1 - 2 * x.2))
abbrev pieceC (p : Span × Int) : List Value := [.int .i64 p.1.lo, .int .i64 p.1.hi, .int .i64 p.2]
theorem pieceC_len (p : Span × Int) : (pieceC p).length = 3 := rfl
theorem encE_len (p : Int × Int) : (encE p).length = 2 := rfl
def piecesF (t now : Int) (l : List Gauge) : List (Span × Int) := piecesL (sortE (endsF (spk t now l))) 0
def EndOk (x : Int × Int) : Prop := Bd x.1 (-20000) 20001 ∧ (x.2 = 0 ∨ x.2 = 1)
theorem saysG_bd {g : Gauge} {t now : Int} (h : (saysG g t now).2 = 0) : -20000 ≤ (saysG g t now).1.lo ∧ (saysG g t now).1.lo ≤ (saysG g t now).1.hi ∧ (saysG g t now).1.hi ≤ 20000 := by
 unfold saysG saysL at *
 split at h
 ·
  cases h
 ·
  split at h
  ·
   cases h
  ·
   rename_i h1 h2
   rw [if_neg h1, if_neg h2]
   exact ⟨cuts_level.1, by show (cuts g t _).lo ≤ (cuts g t _).hi; omega, cuts_level.2⟩
theorem spkF_mem {t now : Int} : ∀ {l : List Gauge} {i : Int} {x : Int × Span}, x ∈ spkF t now l i → -20000 ≤ x.2.lo ∧ x.2.lo ≤ x.2.hi ∧ x.2.hi ≤ 20000 ∧ i ≤ x.1 ∧ x.1 < i + l.length
  | [], _, _, h => by cases h
  | g :: l, i, x, h => by
    simp only [spkF] at h
    by_cases hs : (saysG g t now).2 = 0
    · rw [if_pos hs] at h
      rcases List.mem_cons.1 h with rfl | h
      · have := saysG_bd hs
        simp only [List.length_cons]
        exact ⟨this.1, this.2.1, this.2.2, by simp, by simp; omega⟩
      · have := spkF_mem h
        simp only [List.length_cons]
        exact ⟨this.1, this.2.1, this.2.2.1, by omega, by omega⟩
    · rw [if_neg hs] at h
      have := spkF_mem h
      simp only [List.length_cons]
      exact ⟨this.1, this.2.1, this.2.2.1, by omega, by omega⟩
theorem spkF_len (t now : Int) : ∀ (l : List Gauge) (i : Int), (spkF t now l i).length ≤ l.length
  | [], _ => Nat.le_refl _
  | g :: l, i => by
    simp only [spkF]
    have := spkF_len t now l (i + 1)
    split
    · simp only [List.length_cons]; omega
    · simp only [List.length_cons]; omega
theorem ends_ok {t now : Int} {l : List Gauge} : ∀ x ∈ endsF (spk t now l), EndOk x := by
 intro x hx
 obtain ⟨y, hy, hx⟩ := List.mem_flatMap.1 hx
 obtain ⟨h1, h2, h3, _⟩ := spkF_mem hy
 simp only [endsOf, List.mem_cons, List.not_mem_nil, or_false] at hx
 rcases hx with rfl | rfl
 ·
  exact ⟨⟨by simp; omega, by simp; omega⟩, .inl rfl⟩
 ·
  exact ⟨⟨by simp; omega, by simp; omega⟩, .inr rfl⟩
theorem sorted_ok {t now : Int} {l : List Gauge} : ∀ x ∈ sortE (endsF (spk t now l)), EndOk x := fun x hx => ends_ok x ((List.mergeSort_perm _ _).mem_iff.1 hx)
def stepP (x : Int × Int) (m : Int) : Option (Int × Int) → List (Span × Int)
 | some y => if x.1 < y.1 then [((⟨x.1, y.1 - 1⟩ : Span), m + (1 - 2 * x.2))] else []
 | none => []
theorem pieces_step {S : List (Int × Int)} {k : Nat} {x : Int × Int} (hx : S[k]? = some x) (m : Int) :
    piecesL (S.drop k) m = stepP x m S[k + 1]? ++ piecesL (S.drop (k + 1)) (m + (1 - 2 * x.2)) := by
  have h1 : S.drop k = x :: S.drop (k + 1) := by
    obtain ⟨h, rfl⟩ := List.getElem?_eq_some_iff.1 hx
    exact List.drop_eq_getElem_cons h
  rw [h1]
  cases h2 : S[k + 1]? with
  | none =>
    have : S.drop (k + 1) = [] := List.drop_eq_nil_of_le (by simpa using h2)
    rw [this]; rfl
  | some y =>
    obtain ⟨h, rfl⟩ := List.getElem?_eq_some_iff.1 h2
    have h3 : S.drop (k + 1) = S[k + 1] :: S.drop (k + 1 + 1) := List.drop_eq_getElem_cons h
    rw [h3]
    simp only [piecesL, stepP]
    split <;> simp
abbrev PL := List (Span × Int)
theorem flatP_len (l : List (Span × Int)) : (l.flatMap pieceC).length = l.length * 3 := by
 induction l with
 | nil => rfl
 | cons a l ih => simp only [List.flatMap_cons, List.length_append, ih, List.length_cons]; simp [pieceC]; omega
theorem splice_flat (ks r : List (Span × Int)) (y v : Span × Int) : splice ((ks ++ y :: r).flatMap pieceC) (ks.length * 3) (pieceC v) = (ks ++ v :: r).flatMap pieceC := by
 unfold splice
 have h := flatP_len ks
 have e1 : ((ks ++ y :: r).flatMap pieceC).take (ks.length * 3) = ks.flatMap pieceC := by
  rw [List.flatMap_append, List.take_append, List.take_of_length_le (by omega), h]; simp
 have e2 : ((ks ++ y :: r).flatMap pieceC).drop (ks.length * 3 + (pieceC v).length) = r.flatMap pieceC := by
  rw [List.flatMap_append, List.drop_append, List.drop_eq_nil_of_le (by rw [pieceC_len]; omega), h, show ks.length * 3 + (pieceC v).length - ks.length * 3 = 3 by rw [pieceC_len]; omega]
  simp [pieceC]
 rw [e1, e2]
 simp
theorem take_flat (ks r : List (Span × Int)) : ((ks ++ r).flatMap pieceC).take (ks.length * 3) = ks.flatMap pieceC := by
 have h := flatP_len ks
 rw [List.flatMap_append, List.take_append, List.take_of_length_le (by omega), h]; simp
theorem flat3 (x : Span × Int) : (pieceC x).length = 3 := rfl
theorem gap_out {ks js l : List (Span × Int)} {j : Nat} {x : Span × Int} (hx : l[j]? = some x) (hne : js ≠ []) : ((ks ++ [x]) ++ (js.tail ++ [x]) ++ l.drop (j + 1)).flatMap pieceC = splice ((ks ++ js ++ l.drop j).flatMap pieceC) (ks.length * 3) (pieceC x) := by
 obtain ⟨h, rfl⟩ := List.getElem?_eq_some_iff.1 hx
 cases js with
 | nil => exact absurd rfl hne
 | cons y r =>
  have := splice_flat ks (r ++ l.drop j) y l[j]
  rw [show ks ++ y :: r ++ l.drop j = ks ++ y :: (r ++ l.drop j) by simp, this, List.drop_eq_getElem_cons h]
  simp
theorem gErrs_zero : ∀ {l : List Gauge}, gErrs l = 0 → ∀ g ∈ l, (checkG g).2.2 = 0
  | [], _, _, h => by cases h
  | x :: l, h0, g, h => by
    by_cases hx : (checkG x).2.2 = 0
    · have h1 : gErrs l = 0 := by rw [gErrs, if_neg (fun k => k hx)] at h0; exact h0
      rcases List.mem_cons.1 h with rfl | h
      · exact hx
      · exact gErrs_zero h1 g h
    · rw [gErrs, if_pos hx] at h0; exact absurd h0 hx
theorem gaugesE_zero {l : List Gauge} {t now : Int} (h : gaugesE l t now = 0) : l.length ≤ 8 ∧ (∀ g ∈ l, GaugeOk g) ∧ (namesG l).Nodup ∧ ticksE [t, now] = 0 := by
 unfold gaugesE at h
 split at h
 ·
  cases h
 split at h
 ·
  rename_i h1 h2; exact absurd h h2
 split at h
 ·
  cases h
 ·
  rename_i h1 h2 h3
  exact ⟨by omega, fun g hg => gaugeOk_of (gErrs_zero (by omega) g hg), Classical.not_not.1 h3, h⟩
def soundE (l : List Gauge) (wrong t now : Int) : Int := if gaugesE l t now ≠ 0 then gaugesE l t now else if outB wrong 0 (l.length - 1) = true then 7 else 0
def enough (need : Int) (ps : PL) : PL := ps.filter fun p => !(decide (p.2 < need))
def soundP (ps : PL) : Span × Int := if ps = [] then (⟨0, 0⟩, 9) else (⟨(ps.getD 0 (⟨0, 0⟩, 0)).1.lo, (ps.getD (ps.length - 1) (⟨0, 0⟩, 0)).1.hi⟩, 0)
def soundF (l : List Gauge) (wrong t now : Int) : Span × Int := if soundE l wrong t now ≠ 0 then (⟨0, 0⟩, soundE l wrong t now) else soundP (enough (l.length - wrong) (piecesF t now l))
theorem soundE_g {l : List Gauge} {wrong t now : Int} (h : gaugesE l t now ≠ 0) : soundE l wrong t now = gaugesE l t now := by unfold soundE; rw [if_pos h]
theorem soundE_w {l : List Gauge} {wrong t now : Int} (h : ¬ gaugesE l t now ≠ 0) (h2 : outB wrong 0 (l.length - 1) = true) : soundE l wrong t now = 7 := by unfold soundE; rw [if_neg h, if_pos h2]
theorem soundE_ok {l : List Gauge} {wrong t now : Int} (h : ¬ gaugesE l t now ≠ 0) (h2 : outB wrong 0 (l.length - 1) = false) : soundE l wrong t now = 0 := by unfold soundE; rw [if_neg h, if_neg (by rw [h2]; decide)]
theorem soundF_e {l : List Gauge} {wrong t now : Int} {e : Int} (h : soundE l wrong t now = e) (h0 : e ≠ 0) : soundF l wrong t now = (⟨0, 0⟩, e) := by unfold soundF; rw [h, if_pos h0]
theorem soundF_ok {l : List Gauge} {wrong t now : Int} (h : soundE l wrong t now = 0) : soundF l wrong t now = soundP (enough (l.length - wrong) (piecesF t now l)) := by unfold soundF; rw [h, if_neg (by simp)]
theorem soundP_some {ps : PL} (h : ps ≠ []) : soundP ps = (⟨(ps.getD 0 (⟨0, 0⟩, 0)).1.lo, (ps.getD (ps.length - 1) (⟨0, 0⟩, 0)).1.hi⟩, 0) := by unfold soundP; rw [if_neg h]
theorem getD_some {α : Type} {l : List α} {i : Nat} {d : α} (h : i < l.length) : l[i]? = some (l.getD i d) := by simp [h]
theorem ticks2b {a b : Int} (h : ticksE [a, b] = 0) : Bd a 0 200000 ∧ Bd b 0 200000 := by
 unfold ticksE at h
 split at h
 ·
  cases h
 ·
  rename_i h1
  simp only [List.any_cons, List.any_nil, Bool.or_false, Bool.not_eq_true, Bool.or_eq_false_iff] at h1
  exact ⟨outB_false.1 h1.1, outB_false.1 h1.2⟩
theorem pieces_len (S : List (Int × Int)) : ∀ (m : Int), (piecesL S m).length ≤ S.length := by
 induction S with
 | nil => intro m; exact Nat.le_refl _
 | cons x r ih =>
  intro m
  cases r with
  | nil => simp [piecesL]
  | cons y r =>
   simp only [piecesL]
   have := ih (m + (1 - 2 * x.2))
   split
   ·
    simp only [List.length_cons] at *; omega
   ·
    simp only [List.length_cons] at *; omega
theorem piecesF_len (t now : Int) (l : List Gauge) : (piecesF t now l).length ≤ 2 * l.length := by
 have h1 := pieces_len (sortE (endsF (spk t now l))) 0
 have h2 : (spk t now l).length ≤ l.length := spkF_len t now l 0
 rw [sortE_len, endsF_len] at h1
 unfold piecesF
 omega
def hasG (t now : Int) (g : Gauge) (x : Int) : Bool := decide ((saysG g t now).2 = 0) && inB x (saysG g t now).1.lo (saysG g t now).1.hi
def cntG (t now : Int) (l : List Gauge) (x : Int) : Nat := l.countP fun u => hasG t now u x
theorem soundE_zero {l : List Gauge} {wrong t now : Int} (h : ¬ soundE l wrong t now ≠ 0) : gaugesE l t now = 0 ∧ Bd wrong 0 (l.length - 1) := by
 unfold soundE at h
 by_cases h1 : gaugesE l t now ≠ 0
 ·
  rw [if_pos h1] at h; exact absurd h1 h
 ·
  rw [if_neg h1] at h
  by_cases h2 : outB wrong 0 (l.length - 1) = true
  ·
   rw [if_pos h2] at h; exact absurd (by decide) h
  ·
   exact ⟨Classical.not_not.1 h1, outB_false.1 (by simpa using h2)⟩
def cov (s : Span) (v : Int) : Bool := inB v s.lo s.hi
def cntS (SP : List Span) (v : Int) : Nat := SP.countP fun s => cov s v
def bal (v : Int) : List (Int × Int) → Int
 | [] => 0
 | e :: E => (if e.1 ≤ v then 1 - 2 * e.2 else 0) + bal v E
theorem bal_perm {v : Int} {E F : List (Int × Int)} (h : E.Perm F) : bal v E = bal v F := by
 induction h with
 | nil => rfl
 | cons x _ ih => simp only [bal, ih]
 | swap x y l => simp only [bal]; omega
 | trans _ _ h1 h2 => exact h1.trans h2
theorem bal_none {v : Int} : ∀ {E : List (Int × Int)}, (∀ e ∈ E, v < e.1) → bal v E = 0
  | [], _ => rfl
  | e :: E, h => by
    have h1 := h e (List.mem_cons_self ..)
    simp only [bal]
    rw [if_neg (by omega), bal_none (fun x hx => h x (List.mem_cons_of_mem _ hx))]
    rfl
theorem bal_ends {v : Int} : ∀ {SP : List Span}, (∀ s ∈ SP, s.lo ≤ s.hi) → bal v (SP.flatMap endsOf) = cntS SP v
  | [], _ => rfl
  | s :: SP, h => by
    have h1 := h s (List.mem_cons_self ..)
    have ih := bal_ends (v := v) (SP := SP) (fun x hx => h x (List.mem_cons_of_mem _ hx))
    unfold cntS at *
    rw [List.countP_cons, List.flatMap_cons]
    simp only [endsOf, List.cons_append, List.nil_append, bal, ih]
    by_cases hc : cov s v = true
    · rw [if_pos hc]
      have := inB_iff.1 hc
      rw [if_pos this.1, if_neg (by omega)]
      omega
    · rw [if_neg hc]
      have : ¬ (s.lo ≤ v ∧ v ≤ s.hi) := fun k => hc (inB_iff.2 k)
      by_cases h2 : s.lo ≤ v
      · rw [if_pos h2, if_pos (by omega)]; omega
      · rw [if_neg h2, if_neg (by omega)]; omega
def Asc (S : List (Int × Int)) : Prop := S.Pairwise fun x y => x.1 ≤ y.1
theorem sortE_asc (E : List (Int × Int)) : Asc (sortE E) := by
 have h := List.pairwise_mergeSort (le := fun x y => !(ltE y x)) (fun a b c h1 h2 => by
  simp only [Bool.not_eq_true'] at *
  exact ltE_ntrans c b a h2 h1) (fun a b => by
  simp only [Bool.or_eq_true, Bool.not_eq_true']
  by_cases h : ltE b a = true
  ·
   right
   simp only [ltE, decide_eq_true_eq, decide_eq_false_iff_not] at *; omega
  ·
   left; simpa using h) E
 refine List.Pairwise.imp ?_ h
 intro x y hxy
 simp only [ltE, Bool.not_eq_true', decide_eq_false_iff_not] at hxy
 omega
theorem sortE_perm (E : List (Int × Int)) : (sortE E).Perm E := List.mergeSort_perm _ _
theorem pieces_spec : ∀ (S : List (Int × Int)) (m : Int), Asc S →
    (∀ p ∈ piecesL S m, p.1.lo ≤ p.1.hi ∧ (∃ e ∈ S, e.1 = p.1.lo) ∧ (∀ v, p.1.lo ≤ v → v ≤ p.1.hi → p.2 = m + bal v S) ∧ ∀ e ∈ S, e.1 ≤ p.1.lo ∨ p.1.hi < e.1) ∧
    ((piecesL S m).Pairwise fun p q => p.1.hi < q.1.lo) ∧
    (∀ v, (∃ e ∈ S, e.1 ≤ v) → (∃ e ∈ S, v < e.1) → ∃ p ∈ piecesL S m, p.1.lo ≤ v ∧ v ≤ p.1.hi)
  | [], m, _ => by
    refine ⟨(fun p hp => by cases hp), List.Pairwise.nil, ?_⟩
    rintro v ⟨e, he, _⟩
    cases he
  | [x], m, _ => by
    refine ⟨(fun p hp => by cases hp), List.Pairwise.nil, ?_⟩
    rintro v ⟨e, he, h1⟩ ⟨e2, he2, h2⟩
    obtain rfl := List.mem_singleton.1 he
    obtain rfl := List.mem_singleton.1 he2
    omega
  | x :: y :: r, m, hA => by
    have hx := (List.pairwise_cons.1 hA).1
    have hA' : Asc (y :: r) := (List.pairwise_cons.1 hA).2
    have hxy : x.1 ≤ y.1 := hx y (List.mem_cons_self ..)
    have hy : ∀ e ∈ y :: r, y.1 ≤ e.1 := by
      intro e he
      rcases List.mem_cons.1 he with rfl | he
      · exact Int.le_refl _
      · exact (List.pairwise_cons.1 hA').1 e he
    obtain ⟨i1, i2, i3⟩ := pieces_spec (y :: r) (m + (1 - 2 * x.2)) hA'
    have t1 : ∀ p ∈ piecesL (y :: r) (m + (1 - 2 * x.2)), p.1.lo ≤ p.1.hi ∧ (∃ e ∈ x :: y :: r, e.1 = p.1.lo) ∧ (∀ v, p.1.lo ≤ v → v ≤ p.1.hi → p.2 = m + bal v (x :: y :: r)) ∧ ∀ e ∈ x :: y :: r, e.1 ≤ p.1.lo ∨ p.1.hi < e.1 := by
      intro p hp
      obtain ⟨a1, ⟨e, he, a2⟩, a3, a4⟩ := i1 p hp
      have hlo := hy e he
      refine ⟨a1, ⟨e, List.mem_cons_of_mem _ he, a2⟩, fun v h1 h2 => ?_, fun e' he' => ?_⟩
      · rw [a3 v h1 h2]
        simp only [bal]
        rw [if_pos (show x.1 ≤ v by omega)]
        omega
      · rcases List.mem_cons.1 he' with rfl | he'
        · left; omega
        · exact a4 e' he'
    by_cases hlt : x.1 < y.1
    · have e : piecesL (x :: y :: r) m = (⟨x.1, y.1 - 1⟩, m + (1 - 2 * x.2)) :: piecesL (y :: r) (m + (1 - 2 * x.2)) := by simp only [piecesL]; rw [if_pos hlt]
      rw [e]
      refine ⟨?_, ?_, ?_⟩
      · intro p hp
        rcases List.mem_cons.1 hp with rfl | hp
        · refine ⟨by show x.1 ≤ y.1 - 1; omega, ⟨x, List.mem_cons_self .., rfl⟩, fun v h1 h2 => ?_, fun e' he' => ?_⟩
          · have h1 : x.1 ≤ v := h1
            have h2 : v ≤ y.1 - 1 := h2
            have hb := bal_none (v := v) (E := y :: r) (fun e he => by have := hy e he; omega)
            show m + (1 - 2 * x.2) = m + bal v (x :: y :: r)
            rw [show bal v (x :: y :: r) = (if x.1 ≤ v then 1 - 2 * x.2 else 0) + bal v (y :: r) from rfl, hb, if_pos h1]
            omega
          · rcases List.mem_cons.1 he' with rfl | he'
            · left; exact Int.le_refl _
            · right; have := hy e' he'; show y.1 - 1 < e'.1; omega
        · exact t1 p hp
      · refine List.pairwise_cons.2 ⟨fun q hq => ?_, i2⟩
        obtain ⟨_, ⟨e, he, a2⟩, _⟩ := i1 q hq
        have := hy e he
        show y.1 - 1 < q.1.lo
        omega
      · rintro v ⟨e1, he1, h1⟩ ⟨e2, he2, h2⟩
        by_cases hv : v < y.1
        · refine ⟨_, List.mem_cons_self .., ?_, ?_⟩
          · rcases List.mem_cons.1 he1 with rfl | he1
            · exact h1
            · have := hy e1 he1; omega
          · show v ≤ y.1 - 1; omega
        · have he2' : e2 ∈ y :: r := by
            rcases List.mem_cons.1 he2 with rfl | h
            · omega
            · exact h
          obtain ⟨p, hp, h3⟩ := i3 v ⟨y, List.mem_cons_self .., by omega⟩ ⟨e2, he2', h2⟩
          exact ⟨p, List.mem_cons_of_mem _ hp, h3⟩
    · have e : piecesL (x :: y :: r) m = piecesL (y :: r) (m + (1 - 2 * x.2)) := by simp only [piecesL]; rw [if_neg hlt]
      rw [e]
      refine ⟨t1, i2, ?_⟩
      rintro v ⟨e1, he1, h1⟩ ⟨e2, he2, h2⟩
      have hxe : x.1 = y.1 := by omega
      refine i3 v ?_ ?_
      · rcases List.mem_cons.1 he1 with rfl | he1
        · exact ⟨y, List.mem_cons_self .., by omega⟩
        · exact ⟨e1, he1, h1⟩
      · rcases List.mem_cons.1 he2 with rfl | he2
        · exact ⟨y, List.mem_cons_self .., by omega⟩
        · exact ⟨e2, he2, h2⟩
abbrev piecesS (SP : List Span) : PL := piecesL (sortE (SP.flatMap endsOf)) 0
theorem mem_ends {SP : List Span} {e : Int × Int} : e ∈ sortE (SP.flatMap endsOf) ↔ ∃ s ∈ SP, e = (s.lo, 0) ∨ e = (s.hi + 1, 1) := by
 rw [(sortE_perm _).mem_iff, List.mem_flatMap]
 simp [endsOf]
theorem piecesS_spec {SP : List Span} (hs : ∀ s ∈ SP, s.lo ≤ s.hi) :
    (∀ p ∈ piecesS SP, p.1.lo ≤ p.1.hi ∧ (∀ v, p.1.lo ≤ v → v ≤ p.1.hi → p.2 = cntS SP v) ∧ ∀ s ∈ SP, (s.lo ≤ p.1.lo ∨ p.1.hi < s.lo) ∧ (s.hi < p.1.lo ∨ p.1.hi ≤ s.hi)) ∧
    ((piecesS SP).Pairwise fun p q => p.1.hi < q.1.lo) ∧
    (∀ v, 0 < cntS SP v → ∃ p ∈ piecesS SP, p.1.lo ≤ v ∧ v ≤ p.1.hi) := by
  obtain ⟨h1, h2, h3⟩ := pieces_spec (sortE (SP.flatMap endsOf)) 0 (sortE_asc _)
  refine ⟨fun p hp => ?_, h2, fun v hv => ?_⟩
  · obtain ⟨a1, _, a3, a4⟩ := h1 p hp
    refine ⟨a1, fun v k1 k2 => ?_, fun s hsm => ?_⟩
    · rw [a3 v k1 k2, bal_perm (sortE_perm _), bal_ends hs]; omega
    · have e1 := a4 (s.lo, 0) (mem_ends.2 ⟨s, hsm, .inl rfl⟩)
      have e2 := a4 (s.hi + 1, 1) (mem_ends.2 ⟨s, hsm, .inr rfl⟩)
      simp only [] at e1 e2
      exact ⟨e1, by omega⟩
  · obtain ⟨s, hsm, hc⟩ := List.countP_pos_iff.1 hv
    have := inB_iff.1 hc
    exact h3 v ⟨(s.lo, 0), mem_ends.2 ⟨s, hsm, .inl rfl⟩, this.1⟩ ⟨(s.hi + 1, 1), mem_ends.2 ⟨s, hsm, .inr rfl⟩, by show v < s.hi + 1; omega⟩
theorem asc_bounds {F : PL} (hp : F.Pairwise fun p q => p.1.hi < q.1.lo) (hl : ∀ p ∈ F, p.1.lo ≤ p.1.hi) : ∀ q ∈ F, (F.getD 0 (⟨0, 0⟩, 0)).1.lo ≤ q.1.lo ∧ q.1.hi ≤ (F.getD (F.length - 1) (⟨0, 0⟩, 0)).1.hi := by
 intro q hq
 obtain ⟨i, hi, rfl⟩ := List.getElem_of_mem hq
 rw [List.pairwise_iff_getElem] at hp
 have h0 : F.getD 0 (⟨0, 0⟩, 0) = F[0] := by simp [show 0 < F.length by omega]
 have h1 : F.getD (F.length - 1) (⟨0, 0⟩, 0) = F[F.length - 1] := by simp [show F.length - 1 < F.length by omega]
 rw [h0, h1]
 have l0 := hl F[0] (List.getElem_mem _)
 have l1 := hl F[F.length - 1] (List.getElem_mem _)
 have li := hl F[i] (List.getElem_mem _)
 constructor
 ·
  by_cases h : i = 0
  ·
   subst h; exact Int.le_refl _
  ·
   have := hp 0 i (by omega) hi (by omega); omega
 ·
  by_cases h : i = F.length - 1
  ·
   subst h; exact Int.le_refl _
  ·
   have := hp i (F.length - 1) hi (by omega) (by omega); omega
theorem sound_spec {SP : List Span} (hs : ∀ s ∈ SP, s.lo ≤ s.hi) {need : Int} (hn : 1 ≤ need) :
    (enough need (piecesS SP) = [] ∧ ∀ v, (cntS SP v : Int) < need) ∨ (enough need (piecesS SP) ≠ [] ∧ ∃ a b, soundP (enough need (piecesS SP)) = (⟨a, b⟩, 0) ∧ need ≤ cntS SP a ∧ need ≤ cntS SP b ∧ ∀ v, need ≤ cntS SP v → a ≤ v ∧ v ≤ b) := by
  obtain ⟨h1, h2, h3⟩ := piecesS_spec hs
  have hmem : ∀ p, p ∈ enough need (piecesS SP) ↔ p ∈ piecesS SP ∧ need ≤ p.2 := by
    intro p
    unfold enough
    rw [List.mem_filter]
    simp
  have hfind : ∀ v, need ≤ cntS SP v → ∃ p ∈ enough need (piecesS SP), p.1.lo ≤ v ∧ v ≤ p.1.hi := by
    intro v hv
    obtain ⟨p, hp, k1, k2⟩ := h3 v (by omega)
    exact ⟨p, (hmem p).2 ⟨hp, by rw [(h1 p hp).2.1 v k1 k2]; exact hv⟩, k1, k2⟩
  by_cases hE : enough need (piecesS SP) = []
  · refine .inl ⟨hE, fun v => ?_⟩
    refine Classical.byContradiction fun k => ?_
    obtain ⟨p, hp, _⟩ := hfind v (by omega)
    rw [hE] at hp; cases hp
  · refine .inr ⟨hE, _, _, soundP_some hE, ?_⟩
    have hpos := List.length_pos_iff.2 hE
    have hp2 : (enough need (piecesS SP)).Pairwise fun p q => p.1.hi < q.1.lo := List.Pairwise.filter _ h2
    have hlo : ∀ p ∈ enough need (piecesS SP), p.1.lo ≤ p.1.hi := fun p hp => (h1 p ((hmem p).1 hp).1).1
    have hb := asc_bounds hp2 hlo
    have m0 : (enough need (piecesS SP)).getD 0 (⟨0, 0⟩, 0) ∈ enough need (piecesS SP) := List.mem_of_getElem? (getD_some hpos)
    have m1 : (enough need (piecesS SP)).getD ((enough need (piecesS SP)).length - 1) (⟨0, 0⟩, 0) ∈ enough need (piecesS SP) := List.mem_of_getElem? (getD_some (by omega))
    generalize (enough need (piecesS SP)).getD 0 (⟨0, 0⟩, 0) = p0 at *
    generalize (enough need (piecesS SP)).getD ((enough need (piecesS SP)).length - 1) (⟨0, 0⟩, 0) = p1 at *
    obtain ⟨k0, k0'⟩ := (hmem p0).1 m0
    obtain ⟨k1, k1'⟩ := (hmem p1).1 m1
    refine ⟨?_, ?_, fun v hv => ?_⟩
    · rw [← (h1 p0 k0).2.1 p0.1.lo (Int.le_refl _) (h1 p0 k0).1]; exact k0'
    · rw [← (h1 p1 k1).2.1 p1.1.hi (h1 p1 k1).1 (Int.le_refl _)]; exact k1'
    · obtain ⟨q, hq, q1, q2⟩ := hfind v hv
      have := hb q hq
      omega
def spansG (t now : Int) (l : List Gauge) : List Span := l.flatMap fun u => if (saysG u t now).2 = 0 then [(saysG u t now).1] else []
theorem spk_spans (t now : Int) : ∀ (l : List Gauge) (i : Int), (spkF t now l i).map (·.2) = spansG t now l
  | [], _ => rfl
  | u :: l, i => by
    have ih := spk_spans t now l (i + 1)
    unfold spansG at *
    rw [List.flatMap_cons, ← ih]
    simp only [spkF]
    split <;> simp
theorem ends_spans (t now : Int) (l : List Gauge) : endsF (spk t now l) = (spansG t now l).flatMap endsOf := by
 rw [← spk_spans t now l 0, endsF, List.flatMap_map]
theorem piecesF_S (t now : Int) (l : List Gauge) : piecesF t now l = piecesS (spansG t now l) := by unfold piecesF; rw [ends_spans]
theorem cnt_spans (t now v : Int) (l : List Gauge) : cntG t now l v = cntS (spansG t now l) v := by
 induction l with
 | nil => rfl
 | cons u l ih =>
  unfold cntG cntS spansG at *
  rw [List.flatMap_cons, List.countP_append, List.countP_cons, ih]
  by_cases h : (saysG u t now).2 = 0
  ·
   rw [if_pos h]
   simp only [List.countP_cons, List.countP_nil, hasG, h, decide_true, Bool.true_and, cov]
   omega
  ·
   rw [if_neg h]
   simp [hasG, h]
theorem spans_ok {t now : Int} {l : List Gauge} : ∀ s ∈ spansG t now l, s.lo ≤ s.hi := by
 intro s hs
 rw [← spk_spans t now l 0] at hs
 obtain ⟨x, hx, rfl⟩ := List.mem_map.1 hs
 exact (spkF_mem hx).2.1
theorem sound_way {l : List Gauge} {wrong t now : Int} (h : soundE l wrong t now = 0) :
    (soundF l wrong t now = (⟨0, 0⟩, 9) ∧ ∀ v, (cntG t now l v : Int) < l.length - wrong) ∨
    ∃ a b, soundF l wrong t now = (⟨a, b⟩, 0) ∧ (l.length : Int) - wrong ≤ cntG t now l a ∧ (l.length : Int) - wrong ≤ cntG t now l b ∧ ∀ v, (l.length : Int) - wrong ≤ cntG t now l v → a ≤ v ∧ v ≤ b := by
  obtain ⟨_, hw⟩ := soundE_zero (fun k => k h)
  rw [soundF_ok h, piecesF_S]
  simp only [cnt_spans]
  rcases sound_spec (SP := spansG t now l) spans_ok (need := (l.length : Int) - wrong) (by omega) with ⟨h1, h2⟩ | ⟨_, a, b, h2, h3⟩
  · exact .inl ⟨by rw [h1]; rfl, h2⟩
  · exact .inr ⟨a, b, h2, h3⟩
theorem cnt_says {t now v : Int} {l : List Gauge} (h : 0 < cntG t now l v) : ∃ u ∈ l, (saysG u t now).2 = 0 ∧ (saysG u t now).1.lo ≤ v ∧ v ≤ (saysG u t now).1.hi := by
 obtain ⟨u, hu, hh⟩ := List.countP_pos_iff.1 h
 simp only [hasG, Bool.and_eq_true, decide_eq_true_eq] at hh
 have := inB_iff.1 hh.2
 exact ⟨u, hu, hh.1, this.1, this.2⟩
theorem soundF_zero {l : List Gauge} {wrong t now : Int} (h : (soundF l wrong t now).2 = 0) :
    soundE l wrong t now = 0 ∧ Bd t 0 200000 ∧ (soundF l wrong t now).1.lo ≤ (soundF l wrong t now).1.hi ∧ -20000 ≤ (soundF l wrong t now).1.lo ∧ (soundF l wrong t now).1.hi ≤ 20000 := by
  have hE : soundE l wrong t now = 0 := by
    refine Decidable.byContradiction fun hn => ?_
    unfold soundF at h
    rw [if_pos hn] at h
    exact hn h
  obtain ⟨hg, hw⟩ := soundE_zero (fun k => k hE)
  obtain ⟨_, _, _, htk⟩ := gaugesE_zero hg
  refine ⟨hE, (ticks2b htk).1, ?_⟩
  rcases sound_way hE with ⟨k, _⟩ | ⟨a, b, k, k1, k2, k3⟩
  · rw [k] at h; cases h
  · rw [k]
    have ha := k3 a k1
    obtain ⟨u, _, u1, u2, _⟩ := cnt_says (t := t) (now := now) (l := l) (v := a) (by omega)
    obtain ⟨x, _, x1, _, x3⟩ := cnt_says (t := t) (now := now) (l := l) (v := b) (by omega)
    have b1 := saysG_bd u1
    have b2 := saysG_bd x1
    exact ⟨ha.2, by show -20000 ≤ a; omega, by show b ≤ 20000; omega⟩
theorem sl_at {α : Type} {w : World} {k : Nat} {R : World → List Value → α → Prop} {a : Option Addr} {n c : Nat} {l : List α} (h : Sl w k R (.slice a n c) l) {i : Nat} {x : α} (hx : l[i]? = some x) :
    ∃ b o cs, a = some ⟨b, o, none⟩ ∧ cs.length = k ∧ Cells w b (o + i * k) cs ∧ R w cs x ∧ i < n := by
  obtain ⟨a', c', he, hc, hm, hel⟩ := h
  have hi := (List.getElem?_eq_some_iff.1 hx).1
  have hn : n = l.length := by cases he; rfl
  have ha : a = a' := by cases he; rfl
  obtain ⟨b, o, cs, h1, h2, h3, h4⟩ := hel i hi
  have : l[i] = x := (List.getElem?_eq_some_iff.1 hx).2
  rw [this] at h4
  exact ⟨b, o, cs, ha.trans h1, h2, h3, h4, hn ▸ hi⟩
theorem ints_news {w : World} {a : Option Addr} {cap : Nat} {l : List Int} (h : Sl w 1 RInt (.slice a l.length cap) l) : 0 < l.length → ∃ b o, a = some ⟨b, o, none⟩ ∧ Cells w b o (l.flatMap encI) :=
 encs_news (fun _ _ _ h => h.1) h
theorem spans_news {w : World} {a : Option Addr} {cap : Nat} {l : List Span} (h : Sl w 2 RSpan (.slice a l.length cap) l) : 0 < l.length → ∃ b o, a = some ⟨b, o, none⟩ ∧ Cells w b o (l.flatMap spanC) :=
 encs_news (fun _ _ _ h => h.1) h
theorem sl_nil_of {α : Type} {w : World} {k : Nat} {R : World → List Value → α → Prop} {n c : Nat} {l : List α} (h : Sl w k R (.slice none n c) l) : l = [] := by
 obtain ⟨a', c', he, -, -, hel⟩ := h
 cases l with
 | nil => rfl
 | cons x l =>
  obtain ⟨b, o, cs, ha, -⟩ := hel 0 (by simp)
  cases he
  cases ha
theorem ints_one (l : List Int) : (l.flatMap encI).all (·.oneCell') = true := by
 induction l with
 | nil => rfl
 | cons x l ih => rw [List.flatMap_cons, List.all_append, ih]; rfl
theorem spans_one (l : List Span) : (l.flatMap spanC).all (·.oneCell') = true := by
 induction l with
 | nil => rfl
 | cons x l ih => rw [List.flatMap_cons, List.all_append, ih]; rfl
section
variable {α : Type} {enc : α → List Value} {k : Nat}
theorem take_flatK (hk : ∀ x, (enc x).length = k) : ∀ (l : List α) (i : Nat), (l.flatMap enc).take (i * k) = (l.take i).flatMap enc
  | [], i => by simp
  | x :: l, 0 => by simp
  | x :: l, i + 1 => by
    rw [List.flatMap_cons, List.take_succ_cons, List.flatMap_cons, Nat.succ_mul, Nat.add_comm, ← hk x, List.take_append, Nat.add_sub_cancel_left, hk x, take_flatK hk l i, List.take_of_length_le (by rw [hk x]; omega)]
theorem drop_flatK (hk : ∀ x, (enc x).length = k) : ∀ (l : List α) (i : Nat), (l.flatMap enc).drop (i * k) = (l.drop i).flatMap enc
  | [], i => by simp
  | x :: l, 0 => by simp
  | x :: l, i + 1 => by
    rw [List.flatMap_cons, List.drop_succ_cons, Nat.succ_mul, Nat.add_comm, ← hk x, List.drop_append, Nat.add_sub_cancel_left, hk x, drop_flatK hk l i, List.drop_eq_nil_of_le (by rw [hk x]; omega), List.nil_append]
theorem splice_encs (hk : ∀ x, (enc x).length = k) (l vs : List α) (i : Nat) : splice (l.flatMap enc) (i * k) (vs.flatMap enc) = (l.take i ++ vs ++ l.drop (i + vs.length)).flatMap enc := by
 unfold splice
 rw [take_flatK hk, flat_len hk, ← Nat.add_mul, drop_flatK hk, List.flatMap_append, List.flatMap_append]
end
theorem yEqNil {P : Program} {ρ : Operand → Value} {w : World} {ty : TypeId} {x y : Operand} {a : Option Addr} {n c : Nat} {t t' e : TypeId} (hx : ρ x = .slice a n c) (hy : ρ y = .slice none 0 0) (ht : P.underlying t = some (.slice e)) : Y P ρ (.binOp .eql t x y t') ty w (.bool a.isNone) w := by
 have h : ∀ d : Nat, (Op.equalIn (d + 1) t (.slice a n c) (.slice none 0 0)).run P w = .ok a.isNone w := fun d => by
  cases a <;> simp [Op.equalIn, run_underlying ht]
 have h2 : (binOp .eql t (.slice a n c) (.slice none 0 0)).run P w = .ok (.bool a.isNone) w := by
  simp only [binOp]
  simp [Op.equal, Op.maxDepth, h 9999]
 simp [Y, xop, execOp, hx, hy, eqGuard, h2]
section
variable {P : Program} {ops : Array Oper} {Q : Exit → Act → World → Prop} {n : Nat} {f : Fr} {w w0 : World} {S : List Nat} {L L' : List Item} {rest : List Oper} {d : Nat} {ty : TypeId} {pos : String} {af : Array Edge} {ρ : Operand → Value}
theorem yCap {x : Operand} {a : Option Addr} {l c : Nat} {t e : TypeId} (hx : ρ x = .slice a l c) (ht : P.underlying t = some (.slice e)) : Y P ρ (.call ⟨.builtin .cap, #[x], #[t]⟩) ty w (.int .i64 c) w := by
 simp [Y, xop, execOp, hx, resolve, invoke, builtin, Builtin.cap_, goInt, run_underlying ht]
theorem run_copy_rowK (w : World) (dT sT ty elem : TypeId) (g o dLen dCap k : Nat) (a : Addr) (sLen sCap : Nat) (cur : Array Value) (t : TypeId) (cs : List Value)
    (hu : P.underlying dT = some (.slice elem)) (hs : ∀ w, (Go.sizeOf elem).run P w = .ok k w)
    (hg : w.heap[g]? = some (.cells cur t (0, 0))) (hn : cs.length = Nat.min sLen dLen * k)
    (hsrc : ∀ j v, cs[j]? = some v → w.cell? (a.add j) = some v) (hfit : o + cs.length ≤ cur.size) (h1 : ∀ v ∈ cs, v.oneCell' = true) :
    (Builtin.copy_ #[dT, sT] ty #[.slice (some ⟨g, o, none⟩) dLen dCap, .slice (some a) sLen sCap]).run P w =
      .ok (goInt (Nat.min sLen dLen)) (w.setRow g (cur.toList.take o ++ cs ++ cur.toList.drop (o + cs.length)).toArray) := by
  have hl := run_loadCells_list (P := P) w a cs hsrc
  have hst := run_storeCells_at P g o t cs 0 cur w hg (by simpa using hfit) h1
  simp [Builtin.copy_, run_underlying hu, Builtin.lenOf, Builtin.firstCells, hs, ← hn, hl, hst]
theorem scopyK {dT sT E T : TypeId} {xd xs : Operand} {g o dLen dCap sLen sCap k m : Nat} {ad : Addr} {cs news : List Value} (hS : StX S w0 w L) (hd : ev n f xd = .slice (some ⟨g, o, none⟩) dLen dCap) (hx : ev n f xs = .slice (some ad) sLen sCap)
    (hu : P.underlying dT = some (.slice E)) (hs : ∀ w, (Go.sizeOf E).run P w = .ok k w) [i : AtB L g (Eq (.cells cs.toArray T (0, 0)))] (hm : m = Nat.min sLen dLen) (hn : news.length = m * k) (hsrc : ∀ j v, news[j]? = some v → w.cell? (ad.add j) = some v) (hfit : o + news.length ≤ cs.length) (h1 : news.all (·.oneCell') = true)
    [j : SetB L g (Eq (.cells (splice cs o news).toArray T (0, 0))) L'] (h : ∀ w', StX S w0 w' L' → wpL P ops Q n rest (upd f d (.int .i64 (m : Int))) w') : wpL P ops Q n (⟨some d, .call ⟨.builtin .copy, #[xd, xs], #[dT, sT]⟩, ty, pos, af, none⟩ :: rest) f w := by
  have hg := hS.at g (o := .cells cs.toArray T (0, 0))
  subst hm
  have hrun := run_copy_rowK (P := P) w dT sT ty E g o dLen dCap k ad sLen sCap cs.toArray T news hu hs hg hn hsrc (by simpa using hfit) (fun v hv => List.all_eq_true.1 h1 v hv)
  have hp : Put g (.cells (splice cs o news).toArray T (0, 0)) w (w.setRow g (splice cs o news).toArray) := put_setRow hg
  refine sv (v := goInt (Nat.min sLen dLen)) (w' := w.setRow g (splice cs o news).toArray) ?_ (h _ (hS.put hp))
  simp [Y, xop, execOp, resolve, invoke, builtin, hd, hx, hrun, Bx.splice]
theorem sappZ {t tn e : TypeId} {i : TypeInfo} {z : Value} {bytes m : Nat} {kn : IntKind} {xs' xx : Operand} (hS : StX S w0 w L) (hv : ev n f xs' = .slice none 0 0) (hx : ev n f xx = .int .i64 (m : Int)) (ht : P.underlying t = some (.slice e)) (htn : P.underlying tn = some (.int kn))
    (hi : P.info? e = some i) (hz : i.zero = some z) (hsize : i.size = 1) (hby : i.bytes = bytes) (hzs : z.cells.size = 1) (hm : 0 < m) (hm2 : m ≤ 1000000) (hb : bytes ≤ 1000)
    (h : ∀ b cap w', m ≤ cap → StX S w0 w' (rowI (.slice (some ⟨b, 0, none⟩) 0 cap) e 1 0 [] :: L) → wpL P ops Q n rest (upd f d (.slice (some ⟨b, 0, none⟩) m cap)) w') : wpL P ops Q n (⟨some d, .call ⟨.builtin .append, #[xs', xx], #[t, tn]⟩, ty, pos, af, none⟩ :: rest) f w := by
  have hr := Lib.run_append_nil_zeros (P := P) w t tn ty e i z .i64 kn ht htn hi hz m hm (by rw [hsize]; decide) (by omega) (by rw [hby]; have := Nat.mul_le_mul hm2 hb; omega)
  have hcap : m ≤ grownCap w m 0 e := grownCap_ge w _ 0 e
  have hmx : grownCap w m 0 e ≤ maxLen := grownCap_le_maxLen w _ 0 e (by unfold maxLen; omega)
  have hS1 : StX S w0 w.drew L := hS.step (ext_drew w)
  have hS2 := hS1.call1 (St.new w.drew (.cells (Builtin.zeroCells z.cells m ++ Builtin.zeroCells z.cells (grownCap w m 0 e - m)) e (0, 0)))
  have hsz : (Builtin.zeroCells z.cells m ++ Builtin.zeroCells z.cells (grownCap w m 0 e - m)).size = grownCap w m 0 e := by
    rw [Array.size_append, size_zeroCells, size_zeroCells, hzs]; omega
  refine sv (v := .slice (some ⟨w.heap.size, 0, none⟩) m (grownCap w m 0 e)) (w' := w.drew.alloc (.cells (Builtin.zeroCells z.cells m ++ Builtin.zeroCells z.cells (grownCap w m 0 e - m)) e)) ?_ (h _ _ _ hcap ?_)
  · simp [Y, xop, execOp, resolve, invoke, builtin, hv, hx, hr]
  · refine ⟨hS2.extx, ?_, hS2.own, hS2.apart⟩
    intro it hit
    rcases List.mem_cons.1 hit with rfl | hit
    · refine ⟨rfl, .inr ⟨w.heap.size, grownCap w m 0 e, _, rfl, Nat.zero_le _, ?_, Nat.zero_le _, hmx, by rw [hsz, Nat.mul_one], rfl⟩⟩
      exact heap_alloc_new _ _
    · exact hS2.ok it (List.mem_cons_of_mem _ hit)
end
theorem and_k {P : Program} {t : TypeId} {k : Nat} (hk : k ≤ 200) (w : World) : (Go.binOp .and t (.int .u64 (k : Int)) (.int .u64 4294967295)).run P w = .ok (.int .u64 (k : Int)) w := by
 have key : ∀ q : Fin 201, IntKind.u64.wrap ((BitVec.ofInt 64 ((q.1 : Nat) : Int) &&& BitVec.ofInt 64 4294967295).toNat : Int) = ((q.1 : Nat) : Int) := by decide +kernel
 have := key ⟨k, by omega⟩
 exact congrArg (fun v => Result.ok (Value.int .u64 v) w) this
theorem and_1 {P : Program} {t : TypeId} (w : World) : (Go.binOp .and t (.int .u64 1) (.int .u64 4294967295)).run P w = .ok (.int .u64 1) w := rfl
theorem and_0 {P : Program} {t : TypeId} (w : World) : (Go.binOp .and t (.int .u64 0) (.int .u64 4294967295)).run P w = .ok (.int .u64 0) w := rfl
def repS (s : Span) (k n : Nat) : List Span := List.replicate k s ++ List.replicate (n - k) ⟨0, 0⟩
theorem repS_len {s : Span} {k n : Nat} (h : k ≤ n) : (repS s k n).length = n := by simp [repS]; omega
theorem repS_full (s : Span) (n : Nat) : repS s n n = List.replicate n s := by simp [repS]
theorem repS_zero (s : Span) (n : Nat) : (List.replicate n [Value.int .i64 0, Value.int .i64 0]).flatten = (repS s 0 n).flatMap spanC := by
 rw [rep_flat]; simp [repS]
theorem repS_copy {s : Span} {k m n : Nat} (h : k + m ≤ n) : splice ((repS s k n).flatMap spanC) (k * 2) ((List.replicate m s).flatMap spanC) = (repS s (k + m) n).flatMap spanC := by
 rw [splice_encs spanC_len, List.length_replicate]
 unfold repS
 congr 1
 have e1 : (List.replicate k s ++ List.replicate (n - k) (⟨0, 0⟩ : Span)).take k = List.replicate k s := by
  rw [List.take_append_of_le_length (by simp), List.take_replicate, Nat.min_self]
 have e2 : (List.replicate k s ++ List.replicate (n - k) (⟨0, 0⟩ : Span)).drop (k + m) = List.replicate (n - (k + m)) ⟨0, 0⟩ := by
  rw [List.drop_append, List.drop_eq_nil_of_le (by simp), List.nil_append, List.length_replicate, Nat.add_sub_cancel_left, List.drop_replicate]
  congr 1; omega
 rw [e1, e2, List.replicate_append_replicate]
theorem rep_one (m : Nat) (s : Span) : ((List.replicate m s).flatMap spanC).all (·.oneCell') = true := spans_one _
theorem rep_src {b m : Nat} {T : TypeId} {s : Span} {l : List Span} {w : World} (hb : w.heap[b]? = some (.cells (l.flatMap spanC).toArray T (0, 0))) (hl : l.take m = List.replicate m s) : ∀ j v, ((List.replicate m s).flatMap spanC)[j]? = some v → w.cell? ((⟨b, 0, none⟩ : Addr).add j) = some v := by
 intro j v h
 rw [addr_add]
 refine cell_of hb ?_
 rw [Nat.zero_add, ← List.take_append_drop m l, List.flatMap_append, hl, List.getElem?_append_left (List.getElem?_eq_some_iff.1 h).1]
 exact h
theorem take_min1 (s : Span) (k : Nat) : ([s] : List Span).take (min 1 k) = List.replicate (min 1 k) s := by
 rcases Nat.eq_zero_or_pos k with h | h
 ·
  subst h; rfl
 ·
  rw [Nat.min_eq_left h]; rfl
theorem repS_take {s : Span} {k m n : Nat} (h : m ≤ k) : (repS s k n).take m = List.replicate m s := by
 unfold repS
 rw [List.take_append_of_le_length (by simp; omega), List.take_replicate, Nat.min_eq_left h]
section
variable {P : Program} {ops : Array Oper} {S : List Nat} {w0 : World} {L : List Item} {n : Nat} {rest : List Oper} {f : Fr} {d : Nat} {ty : TypeId} {pos : String} {af : Array Edge} {w : World} {Q : Exit → Act → World → Prop} {ρ : Operand → Value}
theorem yFnB {g : Nat} {bl : List Operand} {vs : List Value} (h : Evs ρ bl vs) : Y P ρ (.makeFunc (.func g) bl.toArray #[]) ty w (.func (.func g) vs.toArray #[]) w := by
 unfold Evs at h
 simp [Y, xop, execOp, Instr.makeFunc, h]
theorem enter_runB {ρ : Operand → Value} {fx : Operand} {args : List Operand} {ts : Array TypeId} {g : FuncId} {vs bl : List Value} {caps : Array Value} (hf : ρ fx = .func (.func g) bl.toArray caps) (ha : Evs ρ args vs)
    (hc : ∀ ars w, (callFunc g ars).run P w = .ok (.enter g ars) w) : (xop ρ (.call ⟨.value fx, args.toArray, ts⟩) ty).run P w = .ok (.enter g ((bl ++ vs).toArray ++ caps)) w := by
  unfold Evs at ha
  simp only [xop, execOp, resolve, hf, Deferred.ofValue, Sem.run_bind, Sem.run_pure, Result.andThen_ok, invoke, hc, List.map_toArray, ha]
  simp
theorem scallfB {fx : Operand} {g : FuncId} {xs : List Operand} {ts : Array TypeId} {vs bl cl : List Value} {R : Value → World → Prop} (hf : ev n f fx = .func (.func g) bl.toArray cl.toArray) (hc : ∀ ars w, (callFunc g ars).run P w = .ok (.enter g ars) w)
    (ha : Evs (ev n f) xs vs) (hC : CE P g (bl ++ vs ++ cl).toArray w R)
    (h : ∀ v w', R v w' → wpL P ops Q n rest (upd f d v) w') : wpL P ops Q n (⟨some d, .call ⟨.value fx, xs.toArray, ts⟩, ty, pos, af, none⟩ :: rest) f w := by
  have hr := enter_runB (P := P) (ρ := ev n f) (w := w) (ty := ty) (ts := ts) hf ha hc
  rw [List.append_toArray] at hr
  exact scallV hr hC h
end
structure Ctr where
 name : ByteArray
 late : Int
 base : Int
 growth : Int
structure Fct where
 centre : Int
 issued : Int
 frm : Int
 members : List (List Int)
structure Sgt where
 table : Table
 gauges : List Gauge
 wrong : Int
 frm : Int
 ticks : Int
 ctrs : List Ctr
 fcs : List Fct
 least : Int
 most : Int
 rate : Int
 quorum : Int
structure Ser where
 frm : Int
 vals : List Int
deriving DecidableEq
def ctrC (x : Ctr) : List Value := [.string x.name, .int .i64 x.late, .int .i64 x.base, .int .i64 x.growth]
def RCtr (_ : World) (cs : List Value) (x : Ctr) : Prop := cs = ctrC x ∧ x.name.size ≤ 9223372036854775807 ∧ I64 x.late ∧ I64 x.base ∧ I64 x.growth
theorem RCtr.stays : Stays RCtr := fun _ _ _ _ _ h => h
def RRow (w : World) (cs : List Value) (l : List Int) : Prop := ∃ v, cs = [v] ∧ Sl w 1 RInt v l
theorem RRow.stays : Stays RRow := fun _ _ _ _ e ⟨v, h1, h2⟩ => ⟨v, h1, h2.ext RInt.stays e⟩
def RFct (w : World) (cs : List Value) (x : Fct) : Prop := ∃ mv, cs = [.int .i64 x.centre, .int .i64 x.issued, .int .i64 x.frm, mv] ∧ I64 x.centre ∧ I64 x.issued ∧ I64 x.frm ∧ Sl w 1 RRow mv x.members
theorem RFct.stays : Stays RFct := fun _ _ _ _ e ⟨v, h1, h2, h3, h4, h5⟩ => ⟨v, h1, h2, h3, h4, h5.ext RRow.stays e⟩
def RSgt (w : World) (cs : List Value) (t : Sgt) : Prop := ∃ cv gv tv fv, cs = [.int .i64 t.table.mean, cv, gv, .int .i64 t.wrong, .int .i64 t.frm, .int .i64 t.ticks, tv, fv, .int .i64 t.least, .int .i64 t.most, .int .i64 t.rate, .int .i64 t.quorum] ∧
 RTable w [.int .i64 t.table.mean, cv] t.table ∧ Sl w 5 RGauge gv t.gauges ∧ I64 t.wrong ∧ I64 t.frm ∧ I64 t.ticks ∧ Sl w 4 RCtr tv t.ctrs ∧ Sl w 4 RFct fv t.fcs ∧ I64 t.least ∧ I64 t.most ∧ I64 t.rate ∧ I64 t.quorum
theorem RSgt.stays : Stays RSgt := fun _ _ _ _ e ⟨cv, gv, tv, fv, h1, h2, h3, h4, h5, h6, h7, h8, h9⟩ => ⟨cv, gv, tv, fv, h1, RTable.stays _ _ _ _ e h2, h3.ext RGauge.stays e, h4, h5, h6, h7.ext RCtr.stays e, h8.ext RFct.stays e, h9⟩
theorem RSgt.ext {w w' : World} {cs : List Value} {t : Sgt} (h : RSgt w cs t) (e : Ext w w') : RSgt w' cs t := RSgt.stays _ _ _ _ e h
def RSer (w : World) (cs : List Value) (s : Ser) : Prop := ∃ v, cs = [.int .i64 s.frm, v] ∧ I64 s.frm ∧ Sl w 1 RInt v s.vals
theorem RSer.stays : Stays RSer := fun _ _ _ _ e ⟨v, h1, h2, h3⟩ => ⟨v, h1, h2, h3.ext RInt.stays e⟩
def firstN (f : Nat → Int) : Nat → Nat → Int × Int
 | 0, _ => (0, 0)
 | m + 1, k => if f k ≠ 0 then (k, f k) else firstN f m (k + 1)
theorem firstN_step {f : Nat → Int} {m k : Nat} (h : f k = 0) : firstN f (m + 1) k = firstN f m (k + 1) := by rw [firstN, if_neg (fun k => k h)]
theorem firstN_hit {f : Nat → Int} {m k : Nat} (h : f k ≠ 0) : firstN f (m + 1) k = ((k : Int), f k) := by rw [firstN, if_pos h]
theorem firstN_ok {f : Nat → Int} : ∀ {m k : Nat}, (firstN f m k).2 = 0 → ∀ i, k ≤ i → i < k + m → f i = 0
  | 0, k, _, i, h1, h2 => by omega
  | m + 1, k, h, i, h1, h2 => by
    by_cases h0 : f k = 0
    · rw [firstN_step h0] at h
      by_cases hk : i = k
      · rw [hk]; exact h0
      · exact firstN_ok h i (by omega) (by omega)
    · rw [firstN_hit h0] at h
      exact absurd h h0
theorem firstN_go {f : Nat → Int} {n k : Nat} (hk : k < n) (h : f k = 0) : firstN f (n - k) k = firstN f (n - (k + 1)) (k + 1) := by
 obtain ⟨m, hm⟩ : ∃ m, n - k = m + 1 := ⟨n - k - 1, by omega⟩
 rw [hm, firstN_step h, show n - (k + 1) = m by omega]
theorem firstN_at {f : Nat → Int} {n k : Nat} (hk : k < n) (h : f k ≠ 0) : firstN f (n - k) k = ((k : Int), f k) := by
 obtain ⟨m, hm⟩ : ∃ m, n - k = m + 1 := ⟨n - k - 1, by omega⟩
 rw [hm, firstN_hit h]
def gau (l : List Gauge) (i : Nat) : Gauge := l.getD i ⟨⟨#[]⟩, 0, 0, [], []⟩
def ctr (l : List Ctr) (i : Nat) : Ctr := l.getD i ⟨⟨#[]⟩, 0, 0, 0⟩
def fct (l : List Fct) (i : Nat) : Fct := l.getD i ⟨0, 0, 0, []⟩
theorem ctr_get {l : List Ctr} {i : Nat} (h : i < l.length) : l[i]? = some (ctr l i) := by simp [ctr, h]
theorem fct_get {l : List Fct} {i : Nat} (h : i < l.length) : l[i]? = some (fct l i) := by simp [fct, h]
theorem gau_at {l : List Gauge} {i : Nat} {g : Gauge} (h : l[i]? = some g) : gau l i = g := by simp [gau, h]
def gE (l : List Gauge) (i : Nat) : Int := if (checkG (gau l i)).2.2 ≠ 0 then (checkG (gau l i)).2.2 else if memB (gau l i).name ((l.take i).map (·.name)) = true then 5 else 0
theorem gE_g {l : List Gauge} {k : Nat} {g : Gauge} (hx : l[k]? = some g) (h : (checkG g).2.2 ≠ 0) : gE l k = (checkG g).2.2 := by unfold gE; rw [gau_at hx, if_pos h]
theorem gE_5 {l : List Gauge} {k : Nat} {g : Gauge} (hx : l[k]? = some g) (h : (checkG g).2.2 = 0) (h2 : memB g.name ((l.take k).map (·.name)) = true) : gE l k = 5 := by unfold gE; rw [gau_at hx, if_neg (fun j => j h), if_pos h2]
theorem gE_0 {l : List Gauge} {k : Nat} {g : Gauge} (hx : l[k]? = some g) (h : (checkG g).2.2 = 0) (h2 : memB g.name ((l.take k).map (·.name)) = false) : gE l k = 0 := by unfold gE; rw [gau_at hx, if_neg (fun j => j h), if_neg (by rw [h2]; decide)]
def wrongB (t : Sgt) : Bool := decide (t.wrong ≠ 0) && outB t.wrong 0 (t.gauges.length - 1)
def gausE (t : Sgt) : Int × Int := if (8 : Int) < t.gauges.length then (0, 3) else if (firstN (gE t.gauges) t.gauges.length 0).2 ≠ 0 then firstN (gE t.gauges) t.gauges.length 0 else if wrongB t = true then (0, 7) else (0, 0)
def ctrB (c : Ctr) : Bool := (outB c.late 0 1000 || outB c.base 0 5000) || outB c.growth 0 1000
def cE (l : List Ctr) (i : Nat) : Int := if (!isName (ctr l i).name) = true then 6 else if ((l.take i).any fun x => decide (x.name = (ctr l i).name)) = true then 5 else if ctrB (ctr l i) = true then 7 else 0
def longM (f : Fct) : Bool := outB f.members.length 1 4 || f.members.any fun l => outB l.length 1 200
theorem longM_ok {f : Fct} (h : longM f = false) : (1 ≤ f.members.length ∧ f.members.length ≤ 4) ∧ ∀ l ∈ f.members, 1 ≤ l.length ∧ l.length ≤ 200 := by
 unfold longM at h
 simp only [Bool.or_eq_false_iff, outB_false] at h
 refine ⟨by omega, fun l hl => ?_⟩
 have := List.any_eq_false.1 h.2 l hl
 simp only [Bool.not_eq_true, outB_false] at this
 omega
theorem flat_take {ls : List (List Int)} (hn : ls.length ≤ 4) (hl : ∀ l ∈ ls, l.length ≤ 200) (k : Nat) : (ls.take k).flatten.length ≤ 800 := by
 have key : ∀ (ls : List (List Int)), (∀ l ∈ ls, l.length ≤ 200) → ls.flatten.length ≤ 200 * ls.length := fun ls => by
  induction ls with
  | nil => intro _; simp
  | cons a ls ih =>
   intro h
   have h1 := h a (List.mem_cons_self ..)
   have h2 := ih fun l hl => h l (List.mem_cons_of_mem _ hl)
   rw [List.flatten_cons, List.length_append, List.length_cons]
   omega
 have h1 := key (ls.take k) fun l h => hl l (List.mem_of_mem_take h)
 have h2 : (ls.take k).length ≤ ls.length := by rw [List.length_take]; omega
 omega
theorem flat_bd {ls : List (List Int)} (hn : ls.length ≤ 4) (hl : ∀ l ∈ ls, l.length ≤ 200) : ls.flatten.length ≤ 800 := by
 have := flat_take hn hl ls.length
 rwa [List.take_length] at this
theorem flat_I64 {w : World} {v : Value} {ls : List (List Int)} (h : Sl w 1 RRow v ls) : ∀ x ∈ ls.flatten, I64 x := fun x hx => by
 obtain ⟨l, hl, hxl⟩ := List.mem_flatten.1 hx
 obtain ⟨i, hi, rfl⟩ := List.getElem_of_mem hl
 obtain ⟨a, cap, -, -, -, hel⟩ := h
 obtain ⟨b, o, cs, -, -, -, u, -, hu⟩ := hel i hi
 obtain ⟨j, hj, rfl⟩ := List.getElem_of_mem hxl
 obtain ⟨a2, cap2, -, -, -, hel2⟩ := hu
 obtain ⟨b2, o2, cs2, -, -, -, -, h64⟩ := hel2 j hj
 exact h64
def sameM (f : Fct) : Bool := f.members.any fun l => decide ((l.length : Int) ≠ (f.members.getD 0 []).length)
def farM (f : Fct) : Bool := f.members.flatten.any fun v => outB v (-10000) 10000
def twiceF (l : List Fct) (i : Nat) : Bool := (l.take i).any fun x => decide (x.centre = (fct l i).centre) && decide (x.issued = (fct l i).issued)
def fE (nc : Nat) (l : List Fct) (i : Nat) : Int :=
 if outB (fct l i).centre 0 (nc - 1) = true then 4 else if (outB (fct l i).issued 0 200000 || outB (fct l i).frm 0 200000) = true then 7 else if longM (fct l i) = true then 3
 else if sameM (fct l i) = true then 2 else if farM (fct l i) = true then 7 else if twiceF l i = true then 5 else 0
def numsS (t : Sgt) : Bool := ((outB t.least (-10000) 0 || outB t.most 0 10000) || outB t.rate 1 5000) || outB t.quorum 0 t.ctrs.length
def checkS (t : Sgt) : Int × Int × Int :=
 if outB t.ticks 1 96 = true then (1, 0, 7) else if levelsE t.table t.frm t.ticks ≠ 0 then (1, 0, levelsE t.table t.frm t.ticks)
 else if (gausE t).2 ≠ 0 then (2, gausE t) else if (4 : Int) < t.ctrs.length ∨ (12 : Int) < t.fcs.length then (3, 0, 3) else if numsS t = true then (3, 0, 7)
 else if (firstN (cE t.ctrs) t.ctrs.length 0).2 ≠ 0 then (4, firstN (cE t.ctrs) t.ctrs.length 0)
 else if (firstN (fE t.ctrs.length t.fcs) t.fcs.length 0).2 ≠ 0 then (5, firstN (fE t.ctrs.length t.fcs) t.fcs.length 0) else (0, 0, 0)
structure SgOk (t : Sgt) : Prop where
 ticks : outB t.ticks 1 96 = false
 lev : levelsE t.table t.frm t.ticks = 0
 ng : ¬ (8 : Int) < t.gauges.length
 gau : ∀ i, i < t.gauges.length → gE t.gauges i = 0
 wrong : wrongB t = false
 nc : ¬ (4 : Int) < t.ctrs.length
 nf : ¬ (12 : Int) < t.fcs.length
 nums : numsS t = false
 ctr : ∀ i, i < t.ctrs.length → cE t.ctrs i = 0
 fct : ∀ i, i < t.fcs.length → fE t.ctrs.length t.fcs i = 0
theorem sg_ok {t : Sgt} (h : (checkS t).2.2 = 0) : SgOk t := by
 unfold checkS at h
 split at h
 ·
  simp at h
 next h1 =>
 split at h
 next h2 => exact absurd h h2
 next h2 =>
 split at h
 next h3 => exact absurd h h3
 next h3 =>
 split at h
 ·
  simp at h
 next h4 =>
 split at h
 ·
  simp at h
 next h5 =>
 split at h
 next h6 => exact absurd h h6
 next h6 =>
 split at h
 next h7 => exact absurd h h7
 next h7 =>
 have h3 := Decidable.not_not.1 h3
 unfold gausE at h3
 split at h3
 ·
  simp at h3
 next g1 =>
 split at h3
 next g2 => exact absurd h3 g2
 next g2 =>
 split at h3
 ·
  simp at h3
 next g3 =>
 have hg := firstN_ok (Decidable.not_not.1 g2)
 have hc := firstN_ok (Decidable.not_not.1 h6)
 have hf := firstN_ok (Decidable.not_not.1 h7)
 exact ⟨by simpa using h1, Decidable.not_not.1 h2, g1, fun i hi => hg i (Nat.zero_le _) (by omega), by simpa using g3, fun k => h4 (.inl k), fun k => h4 (.inr k), by simpa using h5, fun i hi => hc i (Nat.zero_le _) (by omega), fun i hi => hf i (Nat.zero_le _) (by omega)⟩
structure CtrOk (c : Ctr) : Prop where
 late : Bd c.late 0 1000
 base : Bd c.base 0 5000
 growth : Bd c.growth 0 1000
structure FctOk (nc : Nat) (f : Fct) : Prop where
 centre : 0 ≤ f.centre ∧ f.centre < nc
 issued : Bd f.issued 0 200000
 frm : Bd f.frm 0 200000
 nm : 1 ≤ f.members.length ∧ f.members.length ≤ 4
 len : ∀ m ∈ f.members, 1 ≤ m.length ∧ m.length ≤ 200
 same : ∀ m ∈ f.members, m.length = (f.members.getD 0 []).length
 val : ∀ m ∈ f.members, ∀ v ∈ m, Bd v (-10000) 10000
theorem ctr_ok {l : List Ctr} {i : Nat} (h : cE l i = 0) : CtrOk (ctr l i) := by
 unfold cE at h
 split at h
 ·
  simp at h
 split at h
 ·
  simp at h
 split at h
 ·
  simp at h
 next h3 =>
 unfold ctrB at h3
 simp only [Bool.not_eq_true, Bool.or_eq_false_iff, outB_false] at h3
 exact ⟨h3.1.1, h3.1.2, h3.2⟩
theorem fct_ok {nc : Nat} {l : List Fct} {i : Nat} (h : fE nc l i = 0) : FctOk nc (fct l i) := by
 unfold fE at h
 split at h
 ·
  simp at h
 next h1 =>
 split at h
 ·
  simp at h
 next h2 =>
 split at h
 ·
  simp at h
 next h3 =>
 split at h
 ·
  simp at h
 next h4 =>
 split at h
 ·
  simp at h
 next h5 =>
 unfold longM at h3
 simp only [Bool.not_eq_true, Bool.or_eq_false_iff, outB_false] at h1 h2 h3
 refine ⟨by omega, h2.1, h2.2, by omega, fun m hm => ?_, fun m hm => ?_, fun m hm v hv => ?_⟩
 ·
  have := List.any_eq_false.1 h3.2 m hm
  simp only [Bool.not_eq_true, outB_false] at this
  omega
 ·
  unfold sameM at h4
  rw [Bool.not_eq_true, List.any_eq_false] at h4
  have := h4 m hm
  rw [Bool.not_eq_true, decide_eq_false_iff_not, Decidable.not_not] at this
  exact Int.ofNat.inj this
 ·
  unfold farM at h5
  rw [Bool.not_eq_true, List.any_eq_false] at h5
  have := h5 v (List.mem_flatten.2 ⟨m, hm, hv⟩)
  simpa only [Bool.not_eq_true, outB_false] using this
namespace SgOk
variable {t : Sgt} (h : SgOk t)
include h
theorem tk : 1 ≤ t.ticks ∧ t.ticks ≤ 96 := outB_false.1 h.ticks
theorem nums4 : Bd t.least (-10000) 0 ∧ Bd t.most 0 10000 ∧ Bd t.rate 1 5000 ∧ Bd t.quorum 0 t.ctrs.length := by
 have := h.nums
 unfold numsS at this
 simp only [Bool.or_eq_false_iff, outB_false] at this
 exact ⟨this.1.1.1, this.1.1.2, this.1.2, this.2⟩
theorem levs : (checkT t.table).2 = 0 ∧ Bd t.frm 0 200000 ∧ Bd (t.frm + t.ticks - 1) 0 200000 := by
 obtain ⟨h1, -, h3⟩ := levelsE_zero h.lev
 have := h.tk
 exact ⟨h1, h3 (by omega)⟩
theorem ctrs {i : Nat} (hi : i < t.ctrs.length) : CtrOk (Bx.ctr t.ctrs i) := ctr_ok (h.ctr i hi)
theorem fcts {i : Nat} (hi : i < t.fcs.length) : FctOk t.ctrs.length (Bx.fct t.fcs i) := fct_ok (h.fct i hi)
end SgOk
section
variable (t : Sgt) (now : Int)
def curStep (i : Nat) (o : Int) (n : Nat) : Int :=
 if (fct t.fcs n).centre = (i : Int) ∧ (fct t.fcs n).issued ≤ now - (ctr t.ctrs i).late ∧ (o < 0 ∨ (fct t.fcs o.toNat).issued < (fct t.fcs n).issued) then (n : Int) else o
def curK (i k : Nat) : Int := (List.range k).foldl (curStep t now i) (-1)
def curOf (i : Nat) : Int := curK t now i t.fcs.length
def curS : List Int := (List.range t.ctrs.length).map (curOf t now)
theorem curK_succ (i k : Nat) : curK t now i (k + 1) = curStep t now i (curK t now i k) k := by unfold curK; rw [List.range_succ, List.foldl_append]; rfl
theorem curK_bd (i : Nat) : ∀ k, -1 ≤ curK t now i k ∧ curK t now i k < k
  | 0 => by show -1 ≤ (-1 : Int) ∧ (-1 : Int) < ((0 : Nat) : Int); omega
  | k + 1 => by
    have := curK_bd i k
    rw [curK_succ]
    unfold curStep
    split <;> omega
theorem curS_len : (curS t now).length = t.ctrs.length := by simp [curS]
theorem curS_get {i : Nat} (h : i < t.ctrs.length) : (curS t now)[i]? = some (curOf t now i) := by simp [curS, h]
def hourS (f : Fct) (tick : Int) : Int := if f.issued < tick then (tick - f.issued + 5) / 6 else 0
def wrongS (f : Fct) (tick : Int) : Int := (ctr t.ctrs f.centre.toNat).base + (ctr t.ctrs f.centre.toNat).growth * hourS f tick
def tideS (i : Nat) : Span := lvlT t.table (t.frm + i)
def tidesS : List Span := (List.range t.ticks.toNat).map (tideS t)
def tubeAt (f : Fct) (m : List Int) (i : Nat) : Span :=
 if 0 ≤ t.frm + i - f.frm ∧ t.frm + i - f.frm < m.length then ⟨(tideS t i).lo + m.getD (t.frm + i - f.frm).toNat 0 - wrongS t f (t.frm + i), (tideS t i).hi + m.getD (t.frm + i - f.frm).toNat 0 + wrongS t f (t.frm + i)⟩ else ⟨-20000, 20000⟩
def tubeS (f : Fct) (m : List Int) : List Span := (List.range t.ticks.toNat).map (tubeAt t f m)
def surgeAt (i : Nat) : Span := cutS ⟨-20000, 20000⟩ ⟨(tideS t i).lo + t.least, (tideS t i).hi + t.most⟩
def baseAt (i : Nat) : Span := if t.gauges ≠ [] ∧ (soundF t.gauges t.wrong (t.frm + i) now).2 = 0 then cutS (surgeAt t i) (soundF t.gauges t.wrong (t.frm + i) now).1 else surgeAt t i
def baseS : List Span := (List.range t.ticks.toNat).map (baseAt t now)
def emptyS (l : List Span) : Bool := l.any fun x => decide (x.hi < x.lo)
end
theorem tidesS_len (t : Sgt) : (tidesS t).length = t.ticks.toNat := by simp [tidesS]
theorem tubeS_len (t : Sgt) (f : Fct) (m : List Int) : (tubeS t f m).length = t.ticks.toNat := by simp [tubeS]
theorem baseS_len (t : Sgt) (now : Int) : (baseS t now).length = t.ticks.toNat := by simp [baseS]
def spn (l : List Span) (i : Nat) : Span := l.getD i ⟨0, 0⟩
theorem spn_get {l : List Span} {i : Nat} (h : i < l.length) : l[i]? = some (spn l i) := by simp [spn, h]
theorem spn_at {l : List Span} {i : Nat} {s : Span} (h : l[i]? = some s) : spn l i = s := by simp [spn, h]
def nearS (r : Int) (a b : Span) : Span := ⟨max a.lo (b.lo - r), min a.hi (b.hi + r)⟩
def fwS (r : Int) (l : List Span) : Nat → Span
 | 0 => spn l 0
 | i + 1 => nearS r (spn l (i + 1)) (fwS r l i)
def bwS (r : Int) (l : List Span) : Nat → Span
 | 0 => fwS r l (l.length - 1)
 | m + 1 => nearS r (fwS r l (l.length - 1 - (m + 1))) (bwS r l m)
def tgS (r : Int) (l : List Span) (i : Nat) : Span := bwS r l (l.length - 1 - i)
def tightS (r : Int) (l : List Span) : List Span := (List.range l.length).map (tgS r l)
theorem tightS_len (r : Int) (l : List Span) : (tightS r l).length = l.length := by simp [tightS]
theorem tightS_get {r : Int} {l : List Span} {i : Nat} (h : i < l.length) : (tightS r l)[i]? = some (tgS r l i) := by simp [tightS, h]
def LoUp (r : Int) (l : List Span) (i : Nat) (c : Int) : Prop := ∀ k, k < l.length → (spn l k).lo - r * (((i : Int) - k).natAbs : Int) ≤ c
def HiDn (r : Int) (l : List Span) (i : Nat) (c : Int) : Prop := ∀ k, k < l.length → c ≤ (spn l k).hi + r * (((i : Int) - k).natAbs : Int)
theorem fw_lo {r : Int} {l : List Span} {c : Int} : ∀ (i : Nat), i < l.length → ((fwS r l i).lo ≤ c ↔ ∀ k, k ≤ i → (spn l k).lo - r * ((i : Int) - k) ≤ c)
  | 0, _ => by
    constructor
    · intro h k hk; obtain rfl : k = 0 := by omega
      simpa [fwS] using h
    · intro h; simpa [fwS] using h 0 (Nat.le_refl _)
  | i + 1, hi => by
    have ih := fw_lo (r := r) (l := l) (c := c + r) i (by omega)
    show max _ _ ≤ c ↔ _
    rw [Int.max_le]
    constructor
    · rintro ⟨h1, h2⟩ k hk
      by_cases e : k = i + 1
      · subst e; simpa using h1
      · have := ih.1 (by omega) k (by omega)
        have e2 : r * (((i + 1 : Nat) : Int) - k) = r * ((i : Int) - k) + r := by rw [show ((i + 1 : Nat) : Int) - k = ((i : Int) - k) + 1 by omega, Int.mul_add, Int.mul_one]
        rw [e2]; omega
    · intro h
      refine ⟨by simpa using h (i + 1) (Nat.le_refl _), ?_⟩
      have := ih.2 fun k hk => by
        have := h k (by omega)
        have e2 : r * (((i + 1 : Nat) : Int) - k) = r * ((i : Int) - k) + r := by rw [show ((i + 1 : Nat) : Int) - k = ((i : Int) - k) + 1 by omega, Int.mul_add, Int.mul_one]
        rw [e2] at this; omega
      omega
theorem fw_hi {r : Int} {l : List Span} {c : Int} : ∀ (i : Nat), i < l.length → (c ≤ (fwS r l i).hi ↔ ∀ k, k ≤ i → c ≤ (spn l k).hi + r * ((i : Int) - k))
  | 0, _ => by
    constructor
    · intro h k hk; obtain rfl : k = 0 := by omega
      simpa [fwS] using h
    · intro h; simpa [fwS] using h 0 (Nat.le_refl _)
  | i + 1, hi => by
    have ih := fw_hi (r := r) (l := l) (c := c - r) i (by omega)
    show c ≤ min _ _ ↔ _
    rw [Int.le_min]
    constructor
    · rintro ⟨h1, h2⟩ k hk
      by_cases e : k = i + 1
      · subst e; simpa using h1
      · have := ih.1 (by omega) k (by omega)
        have e2 : r * (((i + 1 : Nat) : Int) - k) = r * ((i : Int) - k) + r := by rw [show ((i + 1 : Nat) : Int) - k = ((i : Int) - k) + 1 by omega, Int.mul_add, Int.mul_one]
        rw [e2]; omega
    · intro h
      refine ⟨by simpa using h (i + 1) (Nat.le_refl _), ?_⟩
      have := ih.2 fun k hk => by
        have := h k (by omega)
        have e2 : r * (((i + 1 : Nat) : Int) - k) = r * ((i : Int) - k) + r := by rw [show ((i + 1 : Nat) : Int) - k = ((i : Int) - k) + 1 by omega, Int.mul_add, Int.mul_one]
        rw [e2] at this; omega
      omega
theorem mulr {r : Int} {a b : Int} : r * (a + b) = r * a + r * b := Int.mul_add ..
theorem bw_lo {r : Int} (hr : 0 ≤ r) {l : List Span} {c : Int} : ∀ (m : Nat), m < l.length → ((bwS r l m).lo ≤ c ↔ LoUp r l (l.length - 1 - m) c)
  | 0, hm => by
    show (fwS r l (l.length - 1)).lo ≤ c ↔ _
    rw [fw_lo _ (by omega)]
    constructor
    · intro h k hk
      have := h k (by omega)
      rw [show ((((l.length - 1 - 0 : Nat) : Int) - k).natAbs : Int) = ((l.length - 1 : Nat) : Int) - k by omega]; exact this
    · intro h k hk
      have := h k (by omega)
      rw [show ((((l.length - 1 - 0 : Nat) : Int) - k).natAbs : Int) = ((l.length - 1 : Nat) : Int) - k by omega] at this; exact this
  | m + 1, hm => by
    have ih := bw_lo hr (l := l) (c := c + r) m (by omega)
    show max _ _ ≤ c ↔ _
    rw [Int.max_le, fw_lo _ (by omega)]
    constructor
    · rintro ⟨h1, h2⟩ k hk
      by_cases e : k ≤ l.length - 1 - (m + 1)
      · have := h1 k e
        rw [show ((((l.length - 1 - (m + 1) : Nat) : Int) - k).natAbs : Int) = ((l.length - 1 - (m + 1) : Nat) : Int) - k by omega]; exact this
      · have := ih.1 (by omega) k hk
        rw [show ((((l.length - 1 - (m + 1) : Nat) : Int) - k).natAbs : Int) = ((((l.length - 1 - m : Nat) : Int) - k).natAbs : Int) + 1 by omega, mulr, Int.mul_one]; omega
    · intro h
      refine ⟨fun k hk => ?_, ?_⟩
      · have := h k (by omega)
        rw [show ((((l.length - 1 - (m + 1) : Nat) : Int) - k).natAbs : Int) = ((l.length - 1 - (m + 1) : Nat) : Int) - k by omega] at this; exact this
      · have := ih.2 fun k hk => by
          have h1 := h k hk
          by_cases e : k ≤ l.length - 1 - (m + 1)
          · rw [show ((((l.length - 1 - m : Nat) : Int) - k).natAbs : Int) = ((((l.length - 1 - (m + 1) : Nat) : Int) - k).natAbs : Int) + 1 by omega, mulr, Int.mul_one]; omega
          · rw [show ((((l.length - 1 - (m + 1) : Nat) : Int) - k).natAbs : Int) = ((((l.length - 1 - m : Nat) : Int) - k).natAbs : Int) + 1 by omega, mulr, Int.mul_one] at h1; omega
        omega
theorem bw_hi {r : Int} (hr : 0 ≤ r) {l : List Span} {c : Int} : ∀ (m : Nat), m < l.length → (c ≤ (bwS r l m).hi ↔ HiDn r l (l.length - 1 - m) c)
  | 0, hm => by
    show c ≤ (fwS r l (l.length - 1)).hi ↔ _
    rw [fw_hi _ (by omega)]
    constructor
    · intro h k hk
      have := h k (by omega)
      rw [show ((((l.length - 1 - 0 : Nat) : Int) - k).natAbs : Int) = ((l.length - 1 : Nat) : Int) - k by omega]; exact this
    · intro h k hk
      have := h k (by omega)
      rw [show ((((l.length - 1 - 0 : Nat) : Int) - k).natAbs : Int) = ((l.length - 1 : Nat) : Int) - k by omega] at this; exact this
  | m + 1, hm => by
    have ih := bw_hi hr (l := l) (c := c - r) m (by omega)
    show c ≤ min _ _ ↔ _
    rw [Int.le_min, fw_hi _ (by omega)]
    constructor
    · rintro ⟨h1, h2⟩ k hk
      by_cases e : k ≤ l.length - 1 - (m + 1)
      · have := h1 k e
        rw [show ((((l.length - 1 - (m + 1) : Nat) : Int) - k).natAbs : Int) = ((l.length - 1 - (m + 1) : Nat) : Int) - k by omega]; exact this
      · have := ih.1 (by omega) k hk
        rw [show ((((l.length - 1 - (m + 1) : Nat) : Int) - k).natAbs : Int) = ((((l.length - 1 - m : Nat) : Int) - k).natAbs : Int) + 1 by omega, mulr, Int.mul_one]; omega
    · intro h
      refine ⟨fun k hk => ?_, ?_⟩
      · have := h k (by omega)
        rw [show ((((l.length - 1 - (m + 1) : Nat) : Int) - k).natAbs : Int) = ((l.length - 1 - (m + 1) : Nat) : Int) - k by omega] at this; exact this
      · have := ih.2 fun k hk => by
          have h1 := h k hk
          by_cases e : k ≤ l.length - 1 - (m + 1)
          · rw [show ((((l.length - 1 - m : Nat) : Int) - k).natAbs : Int) = ((((l.length - 1 - (m + 1) : Nat) : Int) - k).natAbs : Int) + 1 by omega, mulr, Int.mul_one]; omega
          · rw [show ((((l.length - 1 - (m + 1) : Nat) : Int) - k).natAbs : Int) = ((((l.length - 1 - m : Nat) : Int) - k).natAbs : Int) + 1 by omega, mulr, Int.mul_one] at h1; omega
        omega
theorem tg_lo {r : Int} (hr : 0 ≤ r) {l : List Span} {i : Nat} (hi : i < l.length) {c : Int} : (tgS r l i).lo ≤ c ↔ LoUp r l i c := by
 have := bw_lo hr (l := l) (c := c) (l.length - 1 - i) (by omega)
 rw [show l.length - 1 - (l.length - 1 - i) = i by omega] at this
 exact this
theorem tg_hi {r : Int} (hr : 0 ≤ r) {l : List Span} {i : Nat} (hi : i < l.length) {c : Int} : c ≤ (tgS r l i).hi ↔ HiDn r l i c := by
 have := bw_hi hr (l := l) (c := c) (l.length - 1 - i) (by omega)
 rw [show l.length - 1 - (l.length - 1 - i) = i by omega] at this
 exact this
def someT (r : Int) (l : List Span) : Bool := !emptyS l && !emptyS (tightS r l)
theorem emptyS_false {l : List Span} : emptyS l = false ↔ ∀ i, i < l.length → (spn l i).lo ≤ (spn l i).hi := by
 unfold emptyS
 rw [List.any_eq_false]
 constructor
 ·
  intro h i hi
  have := h _ (List.mem_of_getElem? (spn_get hi))
  simp at this; omega
 ·
  intro h x hx
  obtain ⟨i, hi, rfl⟩ := List.getElem_of_mem hx
  have := h i hi
  rw [spn_at (List.getElem?_eq_getElem hi)] at this
  simp; omega
theorem someT_iff {r : Int} {l : List Span} : someT r l = true ↔ (∀ i, i < l.length → (spn l i).lo ≤ (spn l i).hi) ∧ ∀ i, i < l.length → (tgS r l i).lo ≤ (tgS r l i).hi := by
 unfold someT
 rw [Bool.and_eq_true, Bool.not_eq_true', Bool.not_eq_true', emptyS_false, emptyS_false, tightS_len]
 constructor
 ·
  rintro ⟨h1, h2⟩
  exact ⟨h1, fun i hi => by have := h2 i hi; rwa [spn_at (tightS_get hi)] at this⟩
 ·
  rintro ⟨h1, h2⟩
  exact ⟨h1, fun i hi => by rw [spn_at (tightS_get hi)]; exact h2 i hi⟩
def InS (l : List Span) (v : List Int) : Prop := v.length = l.length ∧ ∀ i, i < l.length → (spn l i).lo ≤ v.getD i 0 ∧ v.getD i 0 ≤ (spn l i).hi
def RateS (r : Int) (v : List Int) : Prop := ∀ i, i + 1 < v.length → v.getD (i + 1) 0 - v.getD i 0 ≤ r ∧ v.getD i 0 - v.getD (i + 1) 0 ≤ r
theorem rate_far {r : Int} {v : List Int} (h : RateS r v) (i : Nat) : ∀ d, i + d < v.length → v.getD (i + d) 0 - v.getD i 0 ≤ r * d ∧ v.getD i 0 - v.getD (i + d) 0 ≤ r * d
  | 0, _ => by simp
  | d + 1, hd => by
    have h1 := rate_far h i d (by omega)
    have h2 := h (i + d) (by omega)
    rw [show ((d + 1 : Nat) : Int) = (d : Int) + 1 by omega, mulr, Int.mul_one, ← Nat.add_assoc]
    omega
theorem rate_abs {r : Int} {v : List Int} (h : RateS r v) {i k : Nat} (hi : i < v.length) (hk : k < v.length) : v.getD i 0 - v.getD k 0 ≤ r * (((i : Int) - k).natAbs : Int) := by
 rcases Nat.le_total i k with e | e
 ·
  have := (rate_far h i (k - i) (by omega)).2
  rw [show i + (k - i) = k by omega] at this
  rw [show (((i : Int) - k).natAbs : Int) = ((k - i : Nat) : Int) by omega]; exact this
 ·
  have := (rate_far h k (i - k) (by omega)).1
  rw [show k + (i - k) = i by omega] at this
  rw [show (((i : Int) - k).natAbs : Int) = ((i - k : Nat) : Int) by omega]; exact this
theorem in_tight {r : Int} (hr : 0 ≤ r) {l : List Span} {v : List Int} (hv : InS l v) (hrt : RateS r v) : InS (tightS r l) v := by
 refine ⟨by rw [tightS_len]; exact hv.1, fun i hi => ?_⟩
 rw [tightS_len] at hi
 rw [spn_at (tightS_get hi), tg_lo hr hi, tg_hi hr hi]
 refine ⟨fun k hk => ?_, fun k hk => ?_⟩
 ·
  have := (hv.2 k hk).1
  have := rate_abs hrt (i := k) (k := i) (by rw [hv.1]; exact hk) (by rw [hv.1]; exact hi)
  rw [show (((k : Int) - i).natAbs : Int) = (((i : Int) - k).natAbs : Int) by omega] at this
  omega
 ·
  have := (hv.2 k hk).2
  have := rate_abs hrt (i := i) (k := k) (by rw [hv.1]; exact hi) (by rw [hv.1]; exact hk)
  omega
theorem in_some {r : Int} (hr : 0 ≤ r) {l : List Span} {v : List Int} (hv : InS l v) (hrt : RateS r v) : someT r l = true := by
 have h2 := in_tight hr hv hrt
 refine someT_iff.2 ⟨fun i hi => by have := hv.2 i hi; omega, fun i hi => ?_⟩
 have := h2.2 i (by rw [tightS_len]; exact hi)
 rw [spn_at (tightS_get hi)] at this
 omega
def losS (l : List Span) : List Int := l.map (·.lo)
def hisS (l : List Span) : List Int := l.map (·.hi)
theorem losS_at {l : List Span} {i : Nat} (h : i < l.length) : (losS l).getD i 0 = (spn l i).lo := by simp [losS, spn, h]
theorem hisS_at {l : List Span} {i : Nat} (h : i < l.length) : (hisS l).getD i 0 = (spn l i).hi := by simp [hisS, spn, h]
def meetS (a b : List Span) : List Span := List.zipWith cutS a b
theorem meetS_len {a b : List Span} (h : a.length = b.length) : (meetS a b).length = a.length := by simp [meetS, h]
theorem meetS_at {a b : List Span} {i : Nat} (ha : i < a.length) (hb : i < b.length) : spn (meetS a b) i = cutS (spn a i) (spn b i) := by
 apply spn_at
 simp [meetS, List.getElem?_zipWith, spn_get ha, spn_get hb]
theorem in_meet {a b : List Span} (h : a.length = b.length) {v : List Int} : InS (meetS a b) v ↔ InS a v ∧ InS b v := by
 constructor
 ·
  rintro ⟨h1, h2⟩
  rw [meetS_len h] at h1 h2
  refine ⟨⟨h1, fun i hi => ?_⟩, h1.trans h, fun i hi => ?_⟩
  ·
   have := h2 i hi; rw [meetS_at hi (by omega)] at this; simp only [cutS] at this; omega
  ·
   have := h2 i (by omega); rw [meetS_at (by omega) hi] at this; simp only [cutS] at this; omega
 ·
  rintro ⟨⟨h1, h2⟩, h3, h4⟩
  refine ⟨by rw [meetS_len h]; exact h1, fun i hi => ?_⟩
  rw [meetS_len h] at hi
  rw [meetS_at hi (by omega)]
  have := h2 i hi; have := h4 i (by omega)
  simp only [cutS]; omega
def mem (f : Fct) (m : Nat) : List Int := f.members.getD m []
section
variable (t : Sgt)
def chS (cs : List Int) : Nat → List Int → Int → List Span → List (List Int × List Span)
  | 0, c, many, s => if many = 0 then [(c, s)] else []
  | n + 1, c, many, s => chS cs n (c ++ [-1]) many s ++ (if cs.getD c.length (-1) < 0 ∨ many = 0 then [] else (List.range (fct t.fcs (cs.getD c.length (-1)).toNat).members.length).flatMap fun (m : Nat) =>
      chS cs n (c ++ [(m : Int)]) (many - 1) (meetS s (tubeS t (fct t.fcs (cs.getD c.length (-1)).toNat) (mem (fct t.fcs (cs.getD c.length (-1)).toNat) m))))
def leftK (cs c : List Int) (k : Nat) (s : List Span) : List Span := if c.getD k (-1) < 0 then s else meetS s (tubeS t (fct t.fcs (cs.getD k (-1)).toNat) (mem (fct t.fcs (cs.getD k (-1)).toNat) (c.getD k (-1)).toNat))
def leftN (cs c : List Int) (s : List Span) : Nat → List Span
 | 0 => s
 | k + 1 => leftK t cs c k (leftN cs c s k)
def needS (now : Int) : Int := min ((curS t now).countP fun i => decide (0 ≤ i) : Nat) t.quorum
def choS (now : Int) : List (List Int × List Span) := chS t (curS t now) t.ctrs.length [] (needS t now) (baseS t now)
end
structure Bo where
 mem : List Int
 spans : List Span
def boxOf (r : Int) (x : List Int × List Span) : Option Bo := if someT r x.2 = true then some ⟨x.1, tightS r x.2⟩ else none
def boxS (t : Sgt) (now : Int) : List Bo := (choS t now).filterMap (boxOf t.rate)
def belowB (a b : List Int) : Bool := (List.range a.length).all fun i => decide (a.getD i 0 ≤ b.getD i 0)
def highB (x : Bo) : List Int := hisS x.spans
def lowB (x : Bo) : List Int := losS x.spans
def outBx (all : List Bo) (i : Nat) (b : Bo) : Bool := (all.any fun x => (decide (x.mem ≠ b.mem) && belowB (highB b) (highB x)) && !belowB (highB x) (highB b)) || (all.take i).any fun x => decide (highB x = highB b)
def boxAt (l : List Bo) (i : Nat) : Bo := l.getD i ⟨[], []⟩
theorem boxAt_get {l : List Bo} {i : Nat} (h : i < l.length) : l[i]? = some (boxAt l i) := by simp [boxAt, h]
def posK (all : List Bo) (k : Nat) : List (List Int) := ((List.range k).filter fun i => !outBx all i (boxAt all i)).map fun i => highB (boxAt all i)
def posS (t : Sgt) (now : Int) : List (List Int) := posK (boxS t now) (boxS t now).length
def hasS (s : List Span) (v : List Int) : Bool := (List.range s.length).all fun i => !(decide (v.getD i 0 < (spn s i).lo) || decide ((spn s i).hi < v.getD i 0))
def rightAt (t : Sgt) (now : Int) (v : List Int) (i : Nat) : Bool := decide (0 ≤ curOf t now i) && (List.range (fct t.fcs (curOf t now i).toNat).members.length).any fun m => hasS (tubeS t (fct t.fcs (curOf t now i).toNat) (mem (fct t.fcs (curOf t now i).toNat) m)) v
def rightS (t : Sgt) (now : Int) (v : List Int) : List Bool := (List.range t.ctrs.length).map (rightAt t now v)
def rateB (r : Int) (v : List Int) : Bool := (List.range (v.length - 1)).all fun i => !outB (v.getD (i + 1) 0 - v.getD i 0) (-r) r
def isS (t : Sgt) (now : Int) (v : List Int) : Bool := rateB t.rate v && hasS (baseS t now) v && decide (needS t now ≤ ((rightS t now v).countP fun b => b : Nat))
theorem hasS_iff {s : List Span} {v : List Int} (h : v.length = s.length) : hasS s v = true ↔ InS s v := by
 unfold hasS InS
 rw [List.all_eq_true]
 constructor
 ·
  intro hh
  refine ⟨h, fun i hi => ?_⟩
  have := hh i (List.mem_range.2 hi)
  simp only [Bool.not_eq_true', Bool.or_eq_false_iff, decide_eq_false_iff_not] at this; omega
 ·
  rintro ⟨-, hh⟩ i hi
  have := hh i (List.mem_range.1 hi)
  simp only [Bool.not_eq_true', Bool.or_eq_false_iff, decide_eq_false_iff_not]; omega
theorem rateB_iff {r : Int} {v : List Int} : rateB r v = true ↔ RateS r v := by
 unfold rateB RateS
 rw [List.all_eq_true]
 constructor
 ·
  intro h i hi
  have := h i (List.mem_range.2 (by omega))
  rw [Bool.not_eq_true', outB_false] at this
  omega
 ·
  intro h i hi
  have := h i (by have := List.mem_range.1 hi; omega)
  rw [Bool.not_eq_true', outB_false]
  omega
theorem belowB_iff {a b : List Int} : belowB a b = true ↔ ∀ i, i < a.length → a.getD i 0 ≤ b.getD i 0 := by
 unfold belowB
 rw [List.all_eq_true]
 constructor
 ·
  intro h i hi
  simpa using h i (List.mem_range.2 hi)
 ·
  intro h i hi
  simpa using h i (List.mem_range.1 hi)
theorem below_refl (a : List Int) : belowB a a = true := belowB_iff.2 fun _ _ => Int.le_refl _
theorem below_trans {a b c : List Int} (hl : a.length = b.length) (h1 : belowB a b = true) (h2 : belowB b c = true) : belowB a c = true := by
 rw [belowB_iff] at *
 intro i hi
 exact Int.le_trans (h1 i hi) (h2 i (by omega))
section
variable {t : Sgt}
theorem ch_pre (cs : List Int) : ∀ (n : Nat) (c : List Int) (many : Int) (s : List Span), ∀ x ∈ chS t cs n c many s, ∃ d, x.1 = c ++ d ∧ d.length = n
  | 0, c, many, s, x, hx => by
    unfold chS at hx
    split at hx
    · obtain rfl : x = (c, s) := by simpa using hx
      exact ⟨[], by simp, rfl⟩
    · simp at hx
  | n + 1, c, many, s, x, hx => by
    rw [chS, List.mem_append] at hx
    rcases hx with hx | hx
    · obtain ⟨d, h1, h2⟩ := ch_pre cs n _ _ _ x hx
      exact ⟨-1 :: d, by rw [h1]; simp, by simp [h2]⟩
    · split at hx
      · simp at hx
      · obtain ⟨m, -, hx⟩ := List.mem_flatMap.1 hx
        obtain ⟨d, h1, h2⟩ := ch_pre cs n _ _ _ x hx
        exact ⟨(m : Int) :: d, by rw [h1]; simp, by simp [h2]⟩
theorem leftN_pre (cs : List Int) {c d : List Int} (s : List Span) : ∀ k, k ≤ c.length → leftN t cs (c ++ d) s k = leftN t cs c s k
  | 0, _ => rfl
  | k + 1, hk => by
    rw [leftN, leftN, leftN_pre cs s k (by omega)]
    unfold leftK
    rw [show (c ++ d).getD k (-1) = c.getD k (-1) by simp [List.getD, List.getElem?_append_left (show k < c.length by omega)]]
theorem ch_snd (cs : List Int) (s0 : List Span) : ∀ (n : Nat) (c : List Int) (many : Int), ∀ x ∈ chS t cs n c many (leftN t cs c s0 c.length), x.2 = leftN t cs x.1 s0 x.1.length
  | 0, c, many, x, hx => by
    unfold chS at hx
    split at hx
    · obtain rfl : x = _ := by simpa using hx
      rfl
    · simp at hx
  | n + 1, c, many, x, hx => by
    have hstep : ∀ v : Int, leftN t cs (c ++ [v]) s0 (c ++ [v]).length = (if v < 0 then leftN t cs c s0 c.length else meetS (leftN t cs c s0 c.length) (tubeS t (fct t.fcs (cs.getD c.length (-1)).toNat) (mem (fct t.fcs (cs.getD c.length (-1)).toNat) v.toNat))) := fun v => by
      rw [List.length_append, List.length_singleton, leftN, leftN_pre cs s0 _ (Nat.le_refl _)]
      unfold leftK
      rw [show (c ++ [v]).getD c.length (-1) = v by simp [List.getD]]
    rw [chS, List.mem_append] at hx
    rcases hx with hx | hx
    · refine ch_snd cs s0 n (c ++ [-1]) many x ?_
      rw [hstep, if_pos (by decide)]; exact hx
    · split at hx
      · simp at hx
      · obtain ⟨m, -, hx⟩ := List.mem_flatMap.1 hx
        refine ch_snd cs s0 n (c ++ [(m : Int)]) (many - 1) x ?_
        rw [hstep, if_neg (by omega), Int.toNat_natCast]; exact hx
end
def cntR (p : Nat → Bool) (i : Nat) : Nat → Nat
 | 0 => 0
 | n + 1 => (if p i = true then 1 else 0) + cntR p (i + 1) n
theorem cntR_le {p q : Nat → Bool} : ∀ (n i : Nat), (∀ k, i ≤ k → k < i + n → p k = true → q k = true) → cntR p i n ≤ cntR q i n
  | 0, _, _ => Nat.le_refl _
  | n + 1, i, h => by
    have ih := cntR_le n (i + 1) (fun k h1 h2 => h k (by omega) (by omega))
    have := h i (Nat.le_refl _) (by omega)
    rw [cntR, cntR]
    by_cases hp : p i = true
    · rw [if_pos hp, if_pos (this hp)]; omega
    · rw [if_neg hp]; split <;> omega
theorem cntR_map {α : Type} (f : Nat → α) (p : α → Bool) : ∀ (n i : Nat), ((List.range' i n).map f).countP p = cntR (fun k => p (f k)) i n
  | 0, _ => rfl
  | n + 1, i => by
    rw [List.range'_succ, List.map_cons, List.countP_cons, cntR_map f p n (i + 1), cntR]
    split <;> omega
theorem cnt_range {α : Type} (f : Nat → α) (p : α → Bool) (n : Nat) : ((List.range n).map f).countP p = cntR (fun k => p (f k)) 0 n := by rw [List.range_eq_range']; exact cntR_map f p n 0
section
variable {t : Sgt}
def okR (t : Sgt) (cs : List Int) (v : List Int) (i : Nat) : Bool := decide (0 ≤ cs.getD i (-1)) && (List.range (fct t.fcs (cs.getD i (-1)).toNat).members.length).any fun m => hasS (tubeS t (fct t.fcs (cs.getD i (-1)).toNat) (mem (fct t.fcs (cs.getD i (-1)).toNat) m)) v
theorem ch_cover (cs : List Int) {v : List Int} (hv : v.length = t.ticks.toNat) : ∀ (n : Nat) (c : List Int) (many : Int) (s : List Span), s.length = t.ticks.toNat → InS s v → 0 ≤ many → many ≤ (cntR (okR t cs v) c.length n : Nat) → ∃ x ∈ chS t cs n c many s, InS x.2 v
  | 0, c, many, s, hs, hi, h0, hm => by
    have : many = 0 := by rw [cntR] at hm; omega
    exact ⟨(c, s), by unfold chS; rw [if_pos this]; exact List.mem_singleton.2 rfl, hi⟩
  | n + 1, c, many, s, hs, hi, h0, hm => by
    have neg : many ≤ (cntR (okR t cs v) (c.length + 1) n : Nat) → ∃ x ∈ chS t cs (n + 1) c many s, InS x.2 v := fun hm2 => by
      obtain ⟨x, hx, hxi⟩ := ch_cover cs hv n (c ++ [-1]) many s hs hi h0 (by rw [List.length_append]; exact hm2)
      exact ⟨x, by rw [chS]; exact List.mem_append_left _ hx, hxi⟩
    by_cases hz : many = 0
    · exact neg (by rw [hz]; exact Int.natCast_nonneg _)
    by_cases ho : okR t cs v c.length = true
    · rw [cntR, if_pos ho] at hm
      unfold okR at ho
      rw [Bool.and_eq_true, decide_eq_true_eq] at ho
      obtain ⟨h1, h2⟩ := ho
      obtain ⟨m, hm2, h3⟩ := List.any_eq_true.1 h2
      have h3 := (hasS_iff (by rw [hv, tubeS_len])).1 h3
      have hsl : (meetS s (tubeS t (fct t.fcs (cs.getD c.length (-1)).toNat) (mem (fct t.fcs (cs.getD c.length (-1)).toNat) m))).length = t.ticks.toNat := by rw [meetS_len (by rw [hs, tubeS_len])]; exact hs
      obtain ⟨x, hx, hxi⟩ := ch_cover cs hv n (c ++ [(m : Int)]) (many - 1) _ hsl ((in_meet (by rw [hs, tubeS_len])).2 ⟨hi, h3⟩) (by omega) (by rw [List.length_append, List.length_singleton]; omega)
      refine ⟨x, ?_, hxi⟩
      rw [chS]
      refine List.mem_append_right _ ?_
      rw [if_neg (by omega)]
      exact List.mem_flatMap.2 ⟨m, hm2, hx⟩
    · rw [cntR, if_neg ho, Nat.zero_add] at hm
      exact neg hm
theorem ch_len (cs : List Int) : ∀ (n : Nat) (c : List Int) (many : Int) (s : List Span), s.length = t.ticks.toNat → ∀ x ∈ chS t cs n c many s, x.2.length = t.ticks.toNat
  | 0, c, many, s, hs, x, hx => by
    unfold chS at hx
    split at hx
    · obtain rfl : x = (c, s) := by simpa using hx
      exact hs
    · simp at hx
  | n + 1, c, many, s, hs, x, hx => by
    rw [chS, List.mem_append] at hx
    rcases hx with hx | hx
    · exact ch_len cs n _ _ _ hs x hx
    · split at hx
      · simp at hx
      · obtain ⟨m, -, hx⟩ := List.mem_flatMap.1 hx
        exact ch_len cs n _ _ _ (by rw [meetS_len (by rw [hs, tubeS_len])]; exact hs) x hx
theorem okR_at (now : Int) {v : List Int} {i : Nat} (hi : i < t.ctrs.length) : okR t (curS t now) v i = rightAt t now v i := by
 unfold okR rightAt
 rw [show (curS t now).getD i (-1) = curOf t now i by simp [List.getD, curS_get t now hi]]
theorem right_cnt (now : Int) (v : List Int) : (rightS t now v).countP (fun b => b) = cntR (okR t (curS t now) v) 0 t.ctrs.length := by
 unfold rightS
 rw [cnt_range]
 apply Nat.le_antisymm
 ·
  exact cntR_le _ _ fun k _ hk h => by rw [okR_at now (by omega)]; exact h
 ·
  exact cntR_le _ _ fun k _ hk h => by rw [okR_at now (by omega)] at h; exact h
theorem need_nn (now : Int) (h : SgOk t) : 0 ≤ needS t now := by
 have := h.nums4.2.2.2
 unfold needS; omega
theorem isS_iff (now : Int) {v : List Int} (hv : v.length = t.ticks.toNat) : isS t now v = true ↔ RateS t.rate v ∧ InS (baseS t now) v ∧ needS t now ≤ (cntR (okR t (curS t now) v) 0 t.ctrs.length : Nat) := by
 unfold isS
 rw [Bool.and_eq_true, Bool.and_eq_true, decide_eq_true_eq, rateB_iff, hasS_iff (by rw [hv, baseS_len]), right_cnt]
 exact ⟨fun ⟨⟨a, b⟩, c⟩ => ⟨a, b, c⟩, fun ⟨a, b, c⟩ => ⟨⟨a, b⟩, c⟩⟩
theorem box_mem {now : Int} {b : Bo} : b ∈ boxS t now ↔ ∃ x ∈ choS t now, someT t.rate x.2 = true ∧ b = ⟨x.1, tightS t.rate x.2⟩ := by
 unfold boxS
 rw [List.mem_filterMap]
 constructor
 ·
  rintro ⟨x, hx, h⟩
  unfold boxOf at h
  split at h
  ·
   next hs => exact ⟨x, hx, hs, (Option.some.inj h).symm⟩
  ·
   cases h
 ·
  rintro ⟨x, hx, hs, rfl⟩
  exact ⟨x, hx, by unfold boxOf; rw [if_pos hs]⟩
theorem cho_len {now : Int} : ∀ x ∈ choS t now, x.2.length = t.ticks.toNat := ch_len _ _ _ _ _ (baseS_len t now)
theorem rate_nn (h : SgOk t) : 0 ≤ t.rate := by have := h.nums4.2.2.1; omega
theorem is_box (h : SgOk t) {now : Int} {v : List Int} (hv : v.length = t.ticks.toNat) (hi : isS t now v = true) : ∃ b ∈ boxS t now, InS b.spans v := by
 obtain ⟨h1, h2, h3⟩ := (isS_iff now hv).1 hi
 obtain ⟨x, hx, hxi⟩ := ch_cover (curS t now) hv t.ctrs.length [] (needS t now) (baseS t now) (baseS_len t now) h2 (need_nn now h) h3
 exact ⟨_, box_mem.2 ⟨x, hx, in_some (rate_nn h) hxi h1, rfl⟩, in_tight (rate_nn h) hxi h1⟩
theorem box_len {now : Int} {b : Bo} (hb : b ∈ boxS t now) : b.spans.length = t.ticks.toNat ∧ b.mem.length = t.ctrs.length := by
 obtain ⟨x, hx, -, rfl⟩ := box_mem.1 hb
 obtain ⟨d, h1, h2⟩ := ch_pre _ _ _ _ _ x hx
 exact ⟨by rw [tightS_len]; exact cho_len x hx, by rw [h1]; simpa using h2⟩
theorem high_len {now : Int} {b : Bo} (hb : b ∈ boxS t now) : (highB b).length = t.ticks.toNat ∧ (lowB b).length = t.ticks.toNat := by
 unfold highB lowB hisS losS
 rw [List.length_map, List.length_map]
 exact ⟨(box_len hb).1, (box_len hb).1⟩
theorem in_box {b : Bo} {v : List Int} (h : InS b.spans v) : belowB (lowB b) v = true ∧ belowB v (highB b) = true := by
 rw [belowB_iff, belowB_iff]
 have hl : (lowB b).length = b.spans.length := by simp [lowB, losS]
 refine ⟨fun i hi => ?_, fun i hi => ?_⟩
 ·
  rw [hl] at hi
  rw [show (lowB b).getD i 0 = (spn b.spans i).lo from losS_at hi]
  exact (h.2 i hi).1
 ·
  rw [h.1] at hi
  rw [show (highB b).getD i 0 = (spn b.spans i).hi from hisS_at hi]
  exact (h.2 i hi).2
end
theorem arg_max {α : Type} (f : α → Int) : ∀ (l : List α), l ≠ [] → ∃ x ∈ l, ∀ y ∈ l, f y ≤ f x
  | [], h => absurd rfl h
  | [x], _ => ⟨x, List.mem_cons_self .., fun y hy => by rw [List.mem_singleton.1 hy]; exact Int.le_refl _⟩
  | x :: y :: l, _ => by
    obtain ⟨z, hz, hm⟩ := arg_max f (y :: l) (by simp)
    rcases Int.le_total (f x) (f z) with h | h
    · exact ⟨z, List.mem_cons_of_mem _ hz, fun u hu => by
        rcases List.mem_cons.1 hu with rfl | hu
        · exact h
        · exact hm u hu⟩
    · exact ⟨x, List.mem_cons_self .., fun u hu => by
        rcases List.mem_cons.1 hu with rfl | hu
        · exact Int.le_refl _
        · exact Int.le_trans (hm u hu) h⟩
def sumL (l : List Int) : Int := l.foldr (· + ·) 0
theorem sum_le : ∀ {a b : List Int}, a.length = b.length → (∀ i, i < a.length → a.getD i 0 ≤ b.getD i 0) → sumL a ≤ sumL b ∧ (sumL b ≤ sumL a → a = b)
  | [], [], _, _ => ⟨Int.le_refl _, fun _ => rfl⟩
  | [], _ :: _, h, _ => by simp at h
  | _ :: _, [], h, _ => by simp at h
  | x :: a, y :: b, h, hp => by
    obtain ⟨h1, h2⟩ := sum_le (a := a) (b := b) (by simpa using h) (fun i hi => by have := hp (i + 1) (by simp; omega); simpa using this)
    have h0 := hp 0 (by simp)
    simp at h0
    show x + sumL a ≤ y + sumL b ∧ (y + sumL b ≤ x + sumL a → _)
    refine ⟨by omega, fun hh => ?_⟩
    rw [h2 (by omega), show x = y by omega]
theorem below_sum {a b : List Int} (hl : a.length = b.length) (h : belowB a b = true) : sumL a ≤ sumL b ∧ (sumL b ≤ sumL a → a = b) := sum_le hl (belowB_iff.1 h)
section
variable {t : Sgt} {now : Int}
theorem box_same {x y : Bo} (hx : x ∈ boxS t now) (hy : y ∈ boxS t now) (h : x.mem = y.mem) : x = y := by
 obtain ⟨p, hp, -, rfl⟩ := box_mem.1 hx
 obtain ⟨q, hq, -, rfl⟩ := box_mem.1 hy
 have e1 : p.1 = q.1 := h
 have a1 := ch_snd (curS t now) (baseS t now) t.ctrs.length [] (needS t now) p hp
 have a2 := ch_snd (curS t now) (baseS t now) t.ctrs.length [] (needS t now) q hq
 rw [a1, a2, e1]
theorem boxAt_mem {l : List Bo} {i : Nat} (h : i < l.length) : boxAt l i ∈ l := List.mem_of_getElem? (boxAt_get h)
theorem outBx_iff {b : Bo} {i : Nat} (hb : b ∈ boxS t now) : outBx (boxS t now) i b = true ↔ (∃ x ∈ boxS t now, belowB (highB b) (highB x) = true ∧ belowB (highB x) (highB b) = false) ∨ ∃ x ∈ (boxS t now).take i, highB x = highB b := by
 unfold outBx
 rw [Bool.or_eq_true, List.any_eq_true, List.any_eq_true]
 constructor
 ·
  rintro (⟨x, hx, h⟩ | ⟨x, hx, h⟩)
  ·
   simp only [Bool.and_eq_true, Bool.not_eq_true', decide_eq_true_eq] at h
   exact .inl ⟨x, hx, h.1.2, h.2⟩
  ·
   exact .inr ⟨x, hx, of_decide_eq_true h⟩
 ·
  rintro (⟨x, hx, h1, h2⟩ | ⟨x, hx, h⟩)
  ·
   refine .inl ⟨x, hx, ?_⟩
   simp only [Bool.and_eq_true, Bool.not_eq_true', decide_eq_true_eq]
   refine ⟨⟨fun e => ?_, h1⟩, h2⟩
   rw [box_same hx hb e, below_refl] at h2
   cases h2
  ·
   exact .inr ⟨x, hx, decide_eq_true h⟩
theorem pos_mem {v : List Int} : v ∈ posS t now ↔ ∃ i, i < (boxS t now).length ∧ outBx (boxS t now) i (boxAt (boxS t now) i) = false ∧ v = highB (boxAt (boxS t now) i) := by
 unfold posS posK
 rw [List.mem_map]
 constructor
 ·
  rintro ⟨i, hi, rfl⟩
  rw [List.mem_filter, List.mem_range] at hi
  exact ⟨i, hi.1, by simpa using hi.2, rfl⟩
 ·
  rintro ⟨i, hi, h, rfl⟩
  exact ⟨i, List.mem_filter.2 ⟨List.mem_range.2 hi, by simpa using h⟩, rfl⟩
theorem pos_up {b : Bo} (hb : b ∈ boxS t now) : ∃ v ∈ posS t now, belowB (highB b) v = true := by
 obtain ⟨x, hx, hm⟩ := arg_max (fun x => sumL (highB x)) ((boxS t now).filter fun x => belowB (highB b) (highB x)) (fun e => by have : b ∈ (boxS t now).filter fun x => belowB (highB b) (highB x) := List.mem_filter.2 ⟨hb, below_refl _⟩; rw [e] at this; cases this)
 obtain ⟨hx1, hx2⟩ := List.mem_filter.1 hx
 obtain ⟨j, hj⟩ : ∃ j, (List.range (boxS t now).length).find? (fun j => decide (highB (boxAt (boxS t now) j) = highB x)) = some j := by
  cases h : (List.range (boxS t now).length).find? (fun j => decide (highB (boxAt (boxS t now) j) = highB x)) with
  | some j => exact ⟨j, rfl⟩
  | none =>
   obtain ⟨k, hk, rfl⟩ := List.getElem_of_mem hx1
   have := List.find?_eq_none.1 h k (List.mem_range.2 hk)
   simp [boxAt, hk] at this
 rw [List.find?_range_eq_some] at hj
 obtain ⟨h1, h2, h3⟩ := hj
 have h1 := of_decide_eq_true h1
 have h2 : j < (boxS t now).length := by simpa using h2
 have hjm := boxAt_mem h2
 refine ⟨highB (boxAt (boxS t now) j), pos_mem.2 ⟨j, h2, ?_, rfl⟩, by rw [h1]; exact hx2⟩
 rw [← Bool.not_eq_true, outBx_iff hjm]
 rintro (⟨y, hy, k1, k2⟩ | ⟨y, hy, k⟩)
 ·
  rw [h1] at k1 k2
  have hl : (highB x).length = (highB y).length := by rw [(high_len hx1).1, (high_len hy).1]
  have hyf : y ∈ (boxS t now).filter fun x => belowB (highB b) (highB x) := List.mem_filter.2 ⟨hy, below_trans (by rw [(high_len hb).1, (high_len hx1).1]) hx2 k1⟩
  have e := (below_sum hl k1).2 (hm y hyf)
  rw [← e, below_refl] at k2
  cases k2
 ·
  obtain ⟨k', hk', rfl⟩ := List.getElem_of_mem hy
  rw [List.length_take] at hk'
  rw [List.getElem_take] at k
  have := h3 k' (by omega)
  simp [boxAt, show k' < (boxS t now).length by omega] at this
  exact this (by rw [← h1]; simpa [boxAt, h2] using k)
theorem pos_len {v : List Int} (h : v ∈ posS t now) : v.length = t.ticks.toNat := by
 obtain ⟨i, hi, -, rfl⟩ := pos_mem.1 h
 exact (high_len (boxAt_mem hi)).1
end
section
variable (t : Sgt) (now : Int)
def askE : Int := if (checkS t).2.2 ≠ 0 then (checkS t).2.2 else if outB now 0 200000 = true then 7 else 0
theorem askE_ok {t : Sgt} {now : Int} (h : askE t now = 0) : SgOk t ∧ Bd now 0 200000 := by
 unfold askE at h
 split at h
 next h1 => exact absurd h h1
 next h1 =>
  split at h
  ·
   simp at h
  ·
   next h2 => exact ⟨sg_ok (Decidable.not_not.1 h1), outB_false.1 (by simpa using h2)⟩
def posR : List (List Int) × Int := if askE t now ≠ 0 then ([], askE t now) else (posS t now, 0)
def envLo (i k : Nat) : Int := (List.range k).foldl (fun m q => min m ((lowB (boxAt (boxS t now) q)).getD i 0)) ((lowB (boxAt (boxS t now) 0)).getD i 0)
def envHi (i k : Nat) : Int := (List.range k).foldl (fun m q => max m ((highB (boxAt (boxS t now) q)).getD i 0)) ((highB (boxAt (boxS t now) 0)).getD i 0)
def topK (l : List Int) (k : Nat) : Int := (l.take k).foldl max (l.getD 0 0)
def topL (l : List Int) : Int := topK l l.length
def peakLo (k : Nat) : Int := (List.range k).foldl (fun m q => min m (topL (lowB (boxAt (boxS t now) q)))) (topL (lowB (boxAt (boxS t now) 0)))
def peakHi (k : Nat) : Int := (List.range k).foldl (fun m q => max m (topL (highB (boxAt (boxS t now) q)))) (topL (highB (boxAt (boxS t now) 0)))
def hisBad (s : Ser) : Bool := (decide (s.frm ≠ t.frm) || decide ((s.vals.length : Int) ≠ t.ticks)) || s.vals.any fun v => outB v (-20000) 20000
def hisE (s : Ser) : Int := if askE t now ≠ 0 then askE t now else if hisBad t s = true then 2 else 0
def isR (s : Ser) : Bool × Int := if hisE t now s ≠ 0 then (false, hisE t now s) else (isS t now s.vals, 0)
end
theorem hisE_ok {t : Sgt} {now : Int} {s : Ser} (h : hisE t now s = 0) : SgOk t ∧ Bd now 0 200000 ∧ s.frm = t.frm ∧ s.vals.length = t.ticks.toNat ∧ ∀ v ∈ s.vals, Bd v (-20000) 20000 := by
 unfold hisE at h
 split at h
 next h1 => exact absurd h h1
 next h1 =>
 split at h
 ·
  simp at h
 next h2 =>
 obtain ⟨k1, k2⟩ := askE_ok (Decidable.not_not.1 h1)
 unfold hisBad at h2
 simp only [Bool.not_eq_true, Bool.or_eq_false_iff, decide_eq_false_iff_not, Decidable.not_not] at h2
 have := k1.tk
 exact ⟨k1, k2, h2.1.1, by omega, fun v hv => by have := List.any_eq_false.1 h2.2 v hv; simpa only [Bool.not_eq_true, outB_false] using this⟩
def SBd (B : Int) (s : Span) : Prop := -B ≤ s.lo ∧ s.lo ≤ B ∧ -B ≤ s.hi ∧ s.hi ≤ B
def LBd (B : Int) (l : List Span) : Prop := ∀ i, i < l.length → SBd B (spn l i)
theorem SBd.mono {B C : Int} {s : Span} (h : SBd B s) (hc : B ≤ C) : SBd C s := by unfold SBd at *; omega
theorem SBd.i64 {s : Span} (h : SBd 40000000 s) : I64 s.lo ∧ I64 s.hi := by unfold SBd at h; exact ⟨⟨by omega, by omega⟩, ⟨by omega, by omega⟩⟩
theorem cut_sbd {B : Int} {a b : Span} (ha : SBd B a) (hb : SBd B b) : SBd B (cutS a b) := by unfold SBd cutS at *; simp only; omega
theorem near_sbd {B r : Int} (hr : 0 ≤ r) {a b : Span} (ha : SBd B a) (hb : SBd B b) : SBd B (nearS r a b) := by unfold SBd nearS at *; simp only; omega
theorem fw_sbd {B r : Int} (hr : 0 ≤ r) {l : List Span} (h : LBd B l) : ∀ i, i < l.length → SBd B (fwS r l i)
 | 0, hi => h 0 hi
 | i + 1, hi => near_sbd hr (h _ hi) (fw_sbd hr h i (by omega))
theorem bw_sbd {B r : Int} (hr : 0 ≤ r) {l : List Span} (h : LBd B l) : ∀ m, m < l.length → SBd B (bwS r l m)
 | 0, hi => fw_sbd hr h _ (by omega)
 | m + 1, hi => near_sbd hr (fw_sbd hr h _ (by omega)) (bw_sbd hr h m (by omega))
theorem tight_sbd {B r : Int} (hr : 0 ≤ r) {l : List Span} (h : LBd B l) : LBd B (tightS r l) := fun i hi => by
 rw [tightS_len] at hi
 rw [spn_at (tightS_get hi)]
 exact bw_sbd hr h _ (by omega)
theorem meet_sbd {B : Int} {a b : List Span} (hl : a.length = b.length) (ha : LBd B a) (hb : LBd B b) : LBd B (meetS a b) := fun i hi => by
 rw [meetS_len hl] at hi
 rw [meetS_at hi (by omega)]
 exact cut_sbd (ha i hi) (hb i (by omega))
theorem lbd_mem {B : Int} {l : List Span} (h : LBd B l) : ∀ s ∈ l, SBd B s := fun s hs => by
 obtain ⟨i, hi, rfl⟩ := List.getElem_of_mem hs
 have := h i hi
 rwa [spn_at (List.getElem?_eq_getElem hi)] at this
theorem lbd_i64 {l : List Span} (h : LBd 40000000 l) : ∀ s ∈ l, I64 s.lo ∧ I64 s.hi := fun s hs => (lbd_mem h s hs).i64
section
variable {t : Sgt} {now : Int}
theorem tide_sbd (h : SgOk t) (i : Nat) : SBd 152000 (tideS t i) := by
 have ht := tableOk_of h.levs.1
 have := lvl_bd ht.mean t.table.consts (t.frm + i) ht.consts
 have hl := ht.len
 unfold tideS lvlT SBd
 omega
theorem hour_bd {f : Fct} {tick : Int} (h1 : Bd f.issued 0 200000) (h2 : Bd tick 0 200000) : 0 ≤ hourS f tick ∧ hourS f tick ≤ 33334 := by
 unfold hourS
 split <;> omega
theorem wrong_bd (h : SgOk t) {f : Fct} (hf : FctOk t.ctrs.length f) {tick : Int} (h2 : Bd tick 0 200000) : 0 ≤ wrongS t f tick ∧ wrongS t f tick ≤ 33339000 ∧ 0 ≤ (ctr t.ctrs f.centre.toNat).growth * hourS f tick ∧ (ctr t.ctrs f.centre.toNat).growth * hourS f tick ≤ 33334000 := by
 have hc := h.ctrs (i := f.centre.toNat) (by have := hf.centre; omega)
 have hh := hour_bd hf.issued h2
 have hg := hc.growth
 have hb := hc.base
 have m1 := Int.mul_nonneg hg.1 hh.1
 have m2 : (ctr t.ctrs f.centre.toNat).growth * hourS f tick ≤ 1000 * 33334 := Int.mul_le_mul hg.2 hh.2 hh.1 (by decide)
 unfold wrongS
 omega
theorem tick_at (h : SgOk t) {i : Nat} (hi : i < t.ticks.toNat) : Bd (t.frm + i) 0 200000 := by
 have := h.levs.2
 have := h.tk
 omega
theorem mem_val {f : Fct} {nc : Nat} (hf : FctOk nc f) {m : Nat} (hm : m < f.members.length) {k : Nat} (hk : k < (mem f m).length) : Bd ((mem f m).getD k 0) (-10000) 10000 := by
 have e : f.members[m]? = some (mem f m) := by simp [mem, hm]
 refine hf.val _ (List.mem_of_getElem? e) _ ?_
 rw [List.getD_eq_getElem?_getD, List.getElem?_eq_getElem hk]
 exact List.getElem_mem hk
theorem mem_in {f : Fct} {m : Nat} (hm : m < f.members.length) : mem f m ∈ f.members := List.mem_of_getElem? (i := m) (by simp [mem, hm])
theorem tube_sbd (h : SgOk t) {f : Fct} (hf : FctOk t.ctrs.length f) {m : Nat} (hm : m < f.members.length) {i : Nat} (hi : i < t.ticks.toNat) : SBd 40000000 (tubeAt t f (mem f m) i) := by
 have hw := wrong_bd h hf (tick_at h hi)
 have ht := tide_sbd h i
 unfold tubeAt
 split
 ·
  next hk =>
  have hv := mem_val hf hm (k := (t.frm + i - f.frm).toNat) (by omega)
  unfold SBd at *
  simp only
  omega
 ·
  unfold SBd; simp only; omega
theorem tubeS_at {f : Fct} {m : List Int} {i : Nat} (hi : i < t.ticks.toNat) : spn (tubeS t f m) i = tubeAt t f m i := spn_at (by simp [tubeS, hi])
theorem tidesS_get {i : Nat} (hi : i < t.ticks.toNat) : (tidesS t)[i]? = some (tideS t i) := by simp [tidesS, hi]
theorem baseS_get {i : Nat} (hi : i < t.ticks.toNat) : (baseS t now)[i]? = some (baseAt t now i) := by simp [baseS, hi]
theorem tubeS_lbd (h : SgOk t) {f : Fct} (hf : FctOk t.ctrs.length f) {m : Nat} (hm : m < f.members.length) : LBd 40000000 (tubeS t f (mem f m)) := fun i hi => by
 rw [tubeS_len] at hi
 rw [tubeS_at hi]
 exact tube_sbd h hf hm hi
theorem surge_sbd (h : SgOk t) (i : Nat) : SBd 200000 (surgeAt t i) := by
 have ht := tide_sbd h i
 have hn := h.nums4
 unfold surgeAt cutS
 unfold SBd at *
 simp only
 omega
theorem base_sbd (h : SgOk t) (now : Int) (i : Nat) : SBd 200000 (baseAt t now i) := by
 have hs := surge_sbd h i
 unfold baseAt
 split
 ·
  next hk =>
  obtain ⟨-, -, h1, h2, h3⟩ := soundF_zero hk.2
  refine cut_sbd hs ?_
  unfold SBd
  omega
 ·
  exact hs
theorem baseS_lbd (h : SgOk t) (now : Int) : LBd 40000000 (baseS t now) := fun i hi => by
 rw [baseS_len] at hi
 rw [spn_at (baseS_get hi)]
 exact (base_sbd h now i).mono (by decide)
theorem sound_sbd {l : List Gauge} {wrong tk nw : Int} (h : (soundF l wrong tk nw).2 = 0) : SBd 20000 (soundF l wrong tk nw).1 := by
 obtain ⟨-, -, h1, h2, h3⟩ := soundF_zero h
 unfold SBd
 omega
theorem cur_fct (h : SgOk t) {i : Nat} (h0 : 0 ≤ curOf t now i) : (curOf t now i).toNat < t.fcs.length ∧ FctOk t.ctrs.length (fct t.fcs (curOf t now i).toNat) := by
 have := curK_bd t now i t.fcs.length
 have hl : (curOf t now i).toNat < t.fcs.length := by unfold curOf at *; omega
 exact ⟨hl, h.fcts hl⟩
theorem cur_at {i : Nat} (hi : i < t.ctrs.length) : (curS t now).getD i (-1) = curOf t now i := by simp [List.getD, curS_get t now hi]
theorem cur_out {i : Nat} (hi : ¬ i < t.ctrs.length) : (curS t now).getD i (-1) = -1 := by
 rw [List.getD_eq_getElem?_getD, List.getElem?_eq_none (by rw [curS_len]; omega)]; rfl
theorem ch_lbd (h : SgOk t) : ∀ (n : Nat) (c : List Int) (many : Int) (s : List Span), s.length = t.ticks.toNat → LBd 40000000 s → ∀ x ∈ chS t (curS t now) n c many s, LBd 40000000 x.2
  | 0, c, many, s, hs, hb, x, hx => by
    unfold chS at hx
    split at hx
    · obtain rfl : x = (c, s) := by simpa using hx
      exact hb
    · simp at hx
  | n + 1, c, many, s, hs, hb, x, hx => by
    rw [chS, List.mem_append] at hx
    rcases hx with hx | hx
    · exact ch_lbd h n _ _ _ hs hb x hx
    · split at hx
      · simp at hx
      · next hk =>
        obtain ⟨m, hm, hx⟩ := List.mem_flatMap.1 hx
        have hm := List.mem_range.1 hm
        by_cases hc : c.length < t.ctrs.length
        · have h0 : 0 ≤ (curS t now).getD c.length (-1) := by omega
          rw [cur_at hc] at h0 hm hx
          obtain ⟨-, hf⟩ := cur_fct h h0
          refine ch_lbd h n _ _ _ ?_ (meet_sbd (by rw [hs, tubeS_len]) hb (tubeS_lbd h hf hm)) x hx
          rw [meetS_len (by rw [hs, tubeS_len])]; exact hs
        · rw [cur_out hc] at hk
          exact absurd (Or.inl (by decide)) hk
theorem cho_lbd (h : SgOk t) : ∀ x ∈ choS t now, LBd 40000000 x.2 := ch_lbd h _ _ _ _ (baseS_len t now) (baseS_lbd h now)
theorem box_lbd (h : SgOk t) {b : Bo} (hb : b ∈ boxS t now) : LBd 40000000 b.spans := by
 obtain ⟨x, hx, -, rfl⟩ := box_mem.1 hb
 exact tight_sbd (rate_nn h) (cho_lbd h x hx)
theorem cur_i64 (h : SgOk t) : ∀ x ∈ curS t now, I64 x := fun x hx => by
 unfold curS at hx
 obtain ⟨i, -, rfl⟩ := List.mem_map.1 hx
 have := curK_bd t now i t.fcs.length
 have hf := h.nf
 unfold curOf
 exact ⟨by omega, by omega⟩
end
def overB (a b : List Int) : Bool := decide (a.length = b.length) && (List.range a.length).all fun i => decide (b.getD i 0 ≤ a.getD i 0)
theorem over_below {a b : List Int} (h : a.length = b.length) : overB a b = belowB b a := by
 unfold overB belowB
 rw [decide_eq_true h, Bool.true_and, h]
section
variable {t : Sgt} {now : Int}
theorem base_in (h : SgOk t) {v : List Int} (hi : InS (baseS t now) v) : ∀ x ∈ v, Bd x (-20000) 20000 := fun x hx => by
 obtain ⟨i, hil, rfl⟩ := List.getElem_of_mem hx
 have hl := hi.1
 rw [baseS_len] at hl
 have h2 := hi.2 i (by rw [baseS_len]; omega)
 rw [spn_at (baseS_get (show i < t.ticks.toNat by omega))] at h2
 have hg : v.getD i 0 = v[i] := by simp [hil]
 rw [hg] at h2
 have hs : -20000 ≤ (baseAt t now i).lo ∧ (baseAt t now i).hi ≤ 20000 := by
  have h3 : -20000 ≤ (surgeAt t i).lo ∧ (surgeAt t i).hi ≤ 20000 := by unfold surgeAt cutS; simp only; omega
  unfold baseAt
  split
  ·
   unfold cutS; simp only; omega
  ·
   exact h3
 omega
theorem isR_true {s : Ser} (h0 : (isR t now s).2 = 0) (h : (isR t now s).1 = true) : SgOk t ∧ Bd now 0 200000 ∧ s.frm = t.frm ∧ s.vals.length = t.ticks.toNat ∧ (∀ v ∈ s.vals, Bd v (-20000) 20000) ∧ isS t now s.vals = true := by
 unfold isR at h0 h
 by_cases he : hisE t now s ≠ 0
 ·
  rw [if_pos he] at h0; exact absurd h0 he
 ·
  rw [if_neg he] at h
  obtain ⟨h1, h2, h3, h4, h5⟩ := hisE_ok (Decidable.not_not.1 he)
  exact ⟨h1, h2, h3, h4, h5, h⟩
theorem fold_min {α : Type} (f : α → Int) : ∀ (l : List α) (a x : Int), x ≤ l.foldl (fun m q => min m (f q)) a ↔ x ≤ a ∧ ∀ q ∈ l, x ≤ f q
 | [], a, x => by simp
 | q :: l, a, x => by rw [List.foldl_cons, fold_min f l, Int.le_min]; simp [and_assoc]
theorem fold_max {α : Type} (f : α → Int) : ∀ (l : List α) (a x : Int), l.foldl (fun m q => max m (f q)) a ≤ x ↔ a ≤ x ∧ ∀ q ∈ l, f q ≤ x
 | [], a, x => by simp
 | q :: l, a, x => by rw [List.foldl_cons, fold_max f l, Int.max_le]; simp [and_assoc]
theorem env_lo {i : Nat} {b : Bo} (hb : b ∈ boxS t now) : envLo t now i (boxS t now).length ≤ (lowB b).getD i 0 := by
 obtain ⟨k, hk, rfl⟩ := List.getElem_of_mem hb
 have := (fold_min (fun q => (lowB (boxAt (boxS t now) q)).getD i 0) (List.range (boxS t now).length) ((lowB (boxAt (boxS t now) 0)).getD i 0) _).1 (Int.le_refl (envLo t now i (boxS t now).length))
 have := this.2 k (List.mem_range.2 hk)
 simpa [boxAt, hk] using this
theorem env_hi {i : Nat} {b : Bo} (hb : b ∈ boxS t now) : (highB b).getD i 0 ≤ envHi t now i (boxS t now).length := by
 obtain ⟨k, hk, rfl⟩ := List.getElem_of_mem hb
 have := (fold_max (fun q => (highB (boxAt (boxS t now) q)).getD i 0) (List.range (boxS t now).length) ((highB (boxAt (boxS t now) 0)).getD i 0) _).1 (Int.le_refl (envHi t now i (boxS t now).length))
 have := this.2 k (List.mem_range.2 hk)
 simpa [boxAt, hk] using this
theorem peak_lo {b : Bo} (hb : b ∈ boxS t now) : peakLo t now (boxS t now).length ≤ topL (lowB b) := by
 obtain ⟨k, hk, rfl⟩ := List.getElem_of_mem hb
 have := (fold_min (fun q => topL (lowB (boxAt (boxS t now) q))) (List.range (boxS t now).length) (topL (lowB (boxAt (boxS t now) 0))) _).1 (Int.le_refl (peakLo t now (boxS t now).length))
 have := this.2 k (List.mem_range.2 hk)
 simpa [boxAt, hk] using this
theorem peak_hi {b : Bo} (hb : b ∈ boxS t now) : topL (highB b) ≤ peakHi t now (boxS t now).length := by
 obtain ⟨k, hk, rfl⟩ := List.getElem_of_mem hb
 have := (fold_max (fun q => topL (highB (boxAt (boxS t now) q))) (List.range (boxS t now).length) (topL (highB (boxAt (boxS t now) 0))) _).1 (Int.le_refl (peakHi t now (boxS t now).length))
 have := this.2 k (List.mem_range.2 hk)
 simpa [boxAt, hk] using this
theorem top_le {l : List Int} {x : Int} (hne : l ≠ []) : topL l ≤ x ↔ ∀ q ∈ l, q ≤ x := by
 unfold topL topK
 rw [List.take_length, show l.foldl max (l.getD 0 0) = l.foldl (fun m q => max m (id q)) (l.getD 0 0) from rfl, fold_max]
 cases l with
 | nil => exact absurd rfl hne
 | cons a l => simp
theorem top_mono {a b : List Int} (hl : a.length = b.length) (hne : a ≠ []) (h : belowB a b = true) : topL a ≤ topL b := by
 have hb : b ≠ [] := fun e => hne (List.eq_nil_of_length_eq_zero (by rw [hl, e]; rfl))
 rw [top_le hne]
 intro q hq
 obtain ⟨i, hi, rfl⟩ := List.getElem_of_mem hq
 have h1 := belowB_iff.1 h i hi
 have h2 := (top_le hb).1 (Int.le_refl _) b[i] (List.getElem_mem (by omega))
 simp [List.getD, hi, show i < b.length by omega] at h1
 omega
theorem covers (h : SgOk t) {v : List Int} (hl : v.length = t.ticks.toNat) (hi : isS t now v = true) :
    (∃ u ∈ posS t now, overB u v = true) ∧ (boxS t now).length ≠ 0 ∧ overB v ((List.range t.ticks.toNat).map fun i => envLo t now i (boxS t now).length) = true ∧ overB ((List.range t.ticks.toNat).map fun i => envHi t now i (boxS t now).length) v = true ∧ peakLo t now (boxS t now).length ≤ topL v ∧ topL v ≤ peakHi t now (boxS t now).length := by
  obtain ⟨b, hb, hbi⟩ := is_box h hl hi
  obtain ⟨b1, b2⟩ := in_box hbi
  obtain ⟨l1, l2⟩ := high_len hb
  obtain ⟨u, hu, hub⟩ := pos_up hb
  have hul := pos_len hu
  have htk := h.tk
  have hvn : v ≠ [] := fun e => by rw [e] at hl; simp at hl; omega
  have hln : lowB b ≠ [] := fun e => by rw [e] at l2; simp at l2; omega
  refine ⟨⟨u, hu, ?_⟩, ?_, ?_, ?_, ?_, ?_⟩
  · rw [over_below (by omega)]; exact below_trans (by omega) b2 hub
  · intro e
    rw [List.eq_nil_of_length_eq_zero e] at hb
    cases hb
  · rw [over_below (by simp [hl]), belowB_iff]
    intro i hi
    have hi2 : i < t.ticks.toNat := by simpa using hi
    have := belowB_iff.1 b1 i (by omega)
    have := env_lo (i := i) hb
    simp [List.getD, hi2] at *
    omega
  · rw [over_below (by simp [hl]), belowB_iff]
    intro i hi
    have hi2 : i < t.ticks.toNat := by omega
    have := belowB_iff.1 b2 i (by omega)
    have := env_hi (i := i) hb
    simp [List.getD, hi2] at *
    omega
  · exact Int.le_trans (peak_lo hb) (top_mono (by omega) hln b1)
  · exact Int.le_trans (top_mono (by omega) hvn b2) (peak_hi hb)
end
structure Looser (t u : Sgt) : Prop where
 table : u.table = t.table
 frm : u.frm = t.frm
 ticks : u.ticks = t.ticks
 gauges : u.gauges = t.gauges
 wrong : u.wrong = t.wrong
 fcs : u.fcs = t.fcs
 len : u.ctrs.length = t.ctrs.length
 late : ∀ i, (ctr u.ctrs i).late = (ctr t.ctrs i).late
 base : ∀ i, (ctr t.ctrs i).base ≤ (ctr u.ctrs i).base
 growth : ∀ i, (ctr t.ctrs i).growth ≤ (ctr u.ctrs i).growth
 least : u.least ≤ t.least
 most : t.most ≤ u.most
 rate : t.rate ≤ u.rate
 quorum : u.quorum ≤ t.quorum
namespace Looser
variable {t u : Sgt} (h : Looser t u)
include h
theorem cur (now : Int) (i : Nat) : curOf u now i = curOf t now i := by
 have e : curStep u now i = curStep t now i := by
  funext o n
  unfold curStep
  rw [h.fcs, h.late]
 unfold curOf curK
 rw [e, h.fcs]
theorem curs (now : Int) : curS u now = curS t now := by
 unfold curS
 rw [h.len]
 exact List.map_congr_left fun i _ => h.cur now i
theorem tide (i : Nat) : tideS u i = tideS t i := by unfold tideS; rw [h.table, h.frm]
theorem wrongs (f : Fct) (tick : Int) : wrongS t f tick ≤ wrongS u f tick := by
 have h1 := h.base f.centre.toNat
 have h2 := h.growth f.centre.toNat
 have h3 : 0 ≤ hourS f tick := by unfold hourS; split <;> omega
 have := Int.mul_le_mul_of_nonneg_right h2 h3
 unfold wrongS
 omega
theorem tube (f : Fct) (m : List Int) {v : List Int} (hv : InS (tubeS t f m) v) : InS (tubeS u f m) v := by
 obtain ⟨h1, h2⟩ := hv
 rw [tubeS_len] at h1
 refine ⟨by rw [tubeS_len, h.ticks]; exact h1, fun i hi => ?_⟩
 rw [tubeS_len, h.ticks] at hi
 have h3 := h2 i (by rw [tubeS_len]; exact hi)
 rw [tubeS_at hi] at h3
 rw [tubeS_at (by rw [h.ticks]; exact hi)]
 unfold tubeAt at *
 rw [h.frm, h.tide]
 have hw := h.wrongs f (t.frm + i)
 split
 ·
  next hk => rw [if_pos hk] at h3; simp only at *; omega
 ·
  next hk => rw [if_neg hk] at h3; exact h3
theorem base_in (now : Int) {v : List Int} (hv : InS (baseS t now) v) : InS (baseS u now) v := by
 obtain ⟨h1, h2⟩ := hv
 rw [baseS_len] at h1
 refine ⟨by rw [baseS_len, h.ticks]; exact h1, fun i hi => ?_⟩
 rw [baseS_len, h.ticks] at hi
 have h3 := h2 i (by rw [baseS_len]; exact hi)
 rw [spn_at (baseS_get hi)] at h3
 rw [spn_at (baseS_get (by rw [h.ticks]; exact hi))]
 unfold baseAt surgeAt cutS at *
 rw [h.gauges, h.wrong, h.frm, h.tide]
 have := h.least
 have := h.most
 split
 ·
  next hk => rw [if_pos hk] at h3; simp only at *; omega
 ·
  next hk => rw [if_neg hk] at h3; simp only at *; omega
theorem ok (now : Int) {v : List Int} (hv : v.length = t.ticks.toNat) {i : Nat} (hr : okR t (curS t now) v i = true) : okR u (curS u now) v i = true := by
 rw [h.curs]
 unfold okR at *
 rw [h.fcs]
 rw [Bool.and_eq_true] at *
 refine ⟨hr.1, ?_⟩
 obtain ⟨m, hm, hh⟩ := List.any_eq_true.1 hr.2
 refine List.any_eq_true.2 ⟨m, hm, ?_⟩
 exact (hasS_iff (by rw [hv, tubeS_len, h.ticks])).2 (h.tube _ _ ((hasS_iff (by rw [hv, tubeS_len])).1 hh))
theorem is (now : Int) {v : List Int} (hv : v.length = t.ticks.toNat) (hi : isS t now v = true) : isS u now v = true := by
  obtain ⟨h1, h2, h3⟩ := (isS_iff now hv).1 hi
  refine (isS_iff now (by rw [hv, h.ticks])).2 ⟨fun i hi => ?_, h.base_in now h2, ?_⟩
  · have := h1 i hi
    have := h.rate
    omega
  · have hn : needS u now ≤ needS t now := by
      unfold needS
      rw [h.curs]
      have := h.quorum
      omega
    have := cntR_le (p := okR t (curS t now) v) (q := okR u (curS u now) v) t.ctrs.length 0 (fun k _ _ hk => h.ok now hv hk)
    rw [h.len]
    omega
end Looser
structure Sea where
 task : Sgt
 surge : List Int
 parts : List Int
def ItQ {α : Type} (P : Program) (g : FuncId) (cl : List Value) (w0 : World) (R : List Item) (enc : α → List Value) (Rd : World → Prop) (T : List α → List Item → Prop) (Z : List α → Prop) : Prop :=
 ∀ (l : Nat) (Cb : Bool → List α → List Item → Prop) (w : World) (L : List Item),
  (∀ pre w L M, Cb true pre L → StX [] w0 w (M ++ L) → Rd w) →
  (∀ pre x w L M, T (pre ++ [x]) M → Cb true pre L → StX [] w0 w (M ++ L) → YieldIn P l (enc x) w fun v w' => ∃ b L', v = .bool b ∧ Cb b (pre ++ [x]) L' ∧ StX [] w0 w' (M ++ L')) →
  Cb true [] L → StX [] w0 w (R ++ L) → CE P g (.func (.yield l) #[] #[] :: cl).toArray w fun _ w' => ∃ L', StX [] w0 w' L' ∧ ((∃ xs, Z xs ∧ Cb true xs L') ∨ ∃ xs, Cb false xs L')
section
variable {P : Program} {Q : Exit → Act → World → Prop} {n : Nat} {f : Fr} {w : World}
theorem rangeQ {α : Type} {ds : List Deferred} {enc : α → List Value} {Rd : World → Prop} {T : List α → List Item → Prop} {Z : List α → Prop} {w0 : World} {R L0 : List Item} {g : Operand} {gf : FuncId} {cl : List Value} {ps : List Nat} {assign body : Code} [hnQ : NoOut Q]
    (hg : ev n f g = .func (.func gf) #[] cl.toArray) (eg : ∀ ars w, (callFunc gf ars).run P w = .ok (.enter gf ars) w)
    (hS : StX [] w0 w (R ++ L0)) (hit : ItQ P gf cl w0 R enc Rd T Z)
    (Cb : Option Code → List α → List Item → Prop) (h0 : Cb none [] L0) (hps : ∀ x, (enc x).length = ps.length) (hrd : ∀ pre w L M, Cb none pre L → StX [] w0 w (L ++ M) → Rd w)
    (hround : ∀ l pre x w L M M0, T (pre ++ [x]) M0 → (∀ it ∈ M0, it ∈ M) → Cb none pre L → StX [] w0 w (L ++ M) →
      assign.wpIn (FX (some l)) 0 P (APost fun a w₁ => ∃ f' L', a = mkd n f' [] ∧ StX [] w0 w₁ (L' ++ M) ∧ ∀ M' w₂, (∀ it ∈ M0, it ∈ M') → StX [] w0 w₂ (L' ++ M') → body.wpIn (FX (some l)) 0 P (RPost w0 (fun c => Cb c (pre ++ [x])) M') (mkd n f' []) w₂) (mkd n (updz ps (enc x) f) []) w)
    (hdone : ∀ D w L xs, Z xs → Cb none xs L → StX [] w0 w (obj D (.deferred (some [])) :: L) → Q .normal (mkd n f (coll D :: ds)) w)
    (hstop : ∀ D w L c pre, Cb (some c) pre L → StX [] w0 w (obj D (.deferred (some [])) :: L) → c.wpIn (FX none) 0 P Q (mkd n f (coll D :: ds)) w) :
    (Code.rangeFunc g ps.toArray assign body).wpIn (FX none) 0 P Q (mkd n f ds) w := by
  refine wpIn_rangeFunc ?_
  intro fn hfn
  show ∃ _, _
  obtain ⟨rec, hrec⟩ : ∃ rec : LoopState → Option Code → Loop, rec = fun st pe => { state := st, pending := pe, fn, tmps := (mkd n f ds).tmps, params := ps.toArray, assign, body, defers := w.heap.size } := ⟨_, rfl⟩
  obtain ⟨W1, hW1⟩ : ∃ W1, (w.alloc (.deferred (some []))).alloc (.loop (rec .ready none)) = W1 := ⟨_, rfl⟩
  obtain ⟨l, hl⟩ : ∃ l, l = w.heap.size + 1 := ⟨_, rfl⟩
  obtain ⟨D, hD⟩ : ∃ D, D = w.heap.size := ⟨_, rfl⟩
  have hS1 : StX [] w0 W1 (obj l (.loop (rec .ready none)) :: obj D (.deferred (some [])) :: (R ++ L0)) := by
    have e1 := hS.call1 (St.new w (.deferred (some [])))
    have e2 := e1.call1 (St.new (w.alloc (.deferred (some []))) (.loop (rec .ready none)))
    rw [World.size_alloc] at e2
    rw [← hW1, hl, hD]
    exact e2
  have hS2 : StX [] w0 W1 (R ++ (obj l (.loop (rec .ready none)) :: obj D (.deferred (some [])) :: L0)) := hS1.perm (perm3 _ _ _ _).symm
  refine ⟨l, [coll D], W1, { target := .fn (.func gf) cl.toArray, args := #[.func (.yield l) #[] #[]] }, W1, gf, (.func (.yield l) #[] #[] :: cl).toArray, W1, ?_, ?_, fun _ _ => trivial, ?_, fun h => (by cases h), ?_⟩
  · rw [← hW1, hrec, hl, hD]
    exact run_enterLoop_outer _ _ _ _ _
  · have hg' : (mkd n f ds).eval g = .func (.func gf) #[] cl.toArray := by rw [wD_eval, mk_eval, hg]
    simp only [resolve, hg']
    simp [go_sem]
  · simp only [invoke, eg]
    simp
  · let Cb' : Bool → List α → List Item → Prop := fun b pre LL => ∃ c L, b = c.isNone ∧ LL = obj l (.loop (rec (if c.isNone then .ready else .done) c)) :: obj D (.deferred (some [])) :: L ∧ Cb c pre L
    refine CallsIn.mono (calls_in (hit l Cb' W1 _ ?_ ?_ ⟨none, L0, rfl, rfl, h0⟩ hS2)) ?_
    · rintro pre w L M ⟨c, L, hc, rfl, hcb⟩ hSt
      obtain rfl : c = none := by cases c with | none => rfl | some c => exact absurd hc (by simp)
      have hSt' : StX [] w0 w (obj l (.loop (rec .ready none)) :: obj D (.deferred (some [])) :: (M ++ L)) := hSt.perm (perm3 _ _ _ _)
      have hStM : StX [] w0 w (L ++ (obj l (.loop (rec .ready none)) :: obj D (.deferred (some [])) :: M)) := hSt'.perm (((List.perm_append_comm (l₁ := M) (l₂ := L)).cons _).cons _ |>.trans (perm3 _ _ _ _).symm)
      exact hrd pre w L _ hcb hStM
    · rintro pre x w L M hpre ⟨c, L, hc, rfl, hcb⟩ hSt
      obtain rfl : c = none := by cases c with | none => rfl | some c => exact absurd hc (by simp)
      have hSt' : StX [] w0 w (obj l (.loop (rec .ready none)) :: obj D (.deferred (some [])) :: (M ++ L)) := hSt.perm (perm3 _ _ _ _)
      have hl0 := hSt'.at l (o := .loop (rec .ready none))
      have hy := run_yield (P := P) (args := (enc x).toArray) hl0 (by rw [hrec]; simp [hps x])
      rw [hrec] at hy
      have ht : (ps.toArray.zip (enc x).toArray).foldl (fun tmps (p : Nat × Value) => tmps.setIfInBounds p.1 p.2) (mkd n f ds).tmps = (mk n (updz ps (enc x) f)).tmps := by
        rw [List.zip_toArray, List.foldl_toArray]
        exact foldl_updz n ps (enc x) f
      have ht' : (ps.toArray.zip (enc x).toArray).foldl (fun tmps (t, a) => tmps.setIfInBounds t a) (mkd n f ds).tmps = (mk n (updz ps (enc x) f)).tmps := ht
      simp only [ht'] at hy
      refine ⟨fn, _, assign, body, hy, roundIn_of_wpIn hfn ?_⟩
      have hStM : StX [] w0 w (L ++ (obj l (.loop (rec .ready none)) :: obj D (.deferred (some [])) :: M)) := hSt'.perm (((List.perm_append_comm (l₁ := M) (l₂ := L)).cons _).cons _ |>.trans (perm3 _ _ _ _).symm)
      refine wpIn_mono (hround l pre x w L _ M hpre (fun it hit => List.mem_cons_of_mem _ (List.mem_cons_of_mem _ hit)) hcb hStM) ?_
      intro e a1 w1 hp
      cases e with
      | normal =>
        obtain ⟨f', L', rfl, hS3, hbody⟩ := hp
        have hS3' : StX [] w0 w1 (obj l (.loop (rec .ready none)) :: obj D (.deferred (some [])) :: (L' ++ M)) := hS3.perm (perm3 _ _ _ _)
        have hl1 := hS3'.at l (o := .loop (rec .ready none))
        refine ⟨_, run_beginRound hl1 (by rw [hrec]), ?_⟩
        have hS4 : StX [] w0 (w1.putObj l (.loop { rec .ready none with state := .busy })) (obj l (.loop { rec .ready none with state := .busy }) :: obj D (.deferred (some [])) :: (L' ++ M)) := hS3'.put (put_obj hl1)
        refine wpIn_mono (hbody _ _ (fun it hit => List.mem_cons_of_mem _ (List.mem_cons_of_mem _ hit)) (hS4.perm (perm3 _ _ _ _).symm)) ?_
        have fin : ∀ (c : Option Code) (w2 : World) (L2 : List Item), Cb c (pre ++ [x]) L2 → StX [] w0 w2 (L2 ++ (obj l (.loop { rec .ready none with state := .busy }) :: obj D (.deferred (some [])) :: M)) →
            ∃ v w', (Instr.endRound l c).run P w2 = .ok v w' ∧ ∃ u, Ending.returned v = .returned u ∧ ∃ b L', u = .bool b ∧ Cb' b (pre ++ [x]) L' ∧ StX [] w0 w' (M ++ L') := by
          intro c w2 L2 hc2 hS5
          have hS5' := hS5.perm (perm3 _ _ _ _)
          have hl2 := hS5'.at l (o := .loop { rec .ready none with state := .busy })
          have he := run_endRound (P := P) c hl2
          refine ⟨_, _, he, _, rfl, _, _, rfl, ⟨c, L2, rfl, rfl, hc2⟩, ?_⟩
          have hS6 : StX [] w0 (w2.putObj l (.loop { { rec .ready none with state := .busy } with state := if c.isNone then .ready else .done, pending := c })) (obj l (.loop { { rec .ready none with state := .busy } with state := if c.isNone then .ready else .done, pending := c }) :: obj D (.deferred (some [])) :: (L2 ++ M)) := hS5'.put (put_obj hl2)
          have hr : ({ { rec .ready none with state := .busy } with state := if c.isNone then .ready else .done, pending := c } : Loop) = rec (if c.isNone then .ready else .done) c := by rw [hrec]
          rw [hr] at hS6 ⊢
          exact hS6.perm (((List.perm_append_comm (l₁ := L2) (l₂ := M)).cons _).cons _ |>.trans (perm3 _ _ _ _).symm)
        intro e a2 w2 hp2
        cases e with
        | normal => obtain ⟨L2, hc2, hS5⟩ := hp2; exact fin none w2 L2 hc2 hS5
        | ret => obtain ⟨L2, hc2, hS5⟩ := hp2; exact fin _ w2 L2 hc2 hS5
        | exit id => obtain ⟨L2, hc2, hS5⟩ := hp2; exact fin _ w2 L2 hc2 hS5
        | goto t => obtain ⟨L2, hc2, hS5⟩ := hp2; exact fin _ w2 L2 hc2 hS5
        | panic c => exact hp2.elim
        | outgrown => exact hp2.elim
      | _ => exact hp.elim
    · rintro e w3 ⟨v, rfl, LL, hS7, hcb⟩
      have key : ∀ (c : Option Code) (L : List Item), StX [] w0 w3 (obj l (.loop (rec (if c.isNone then .ready else .done) c)) :: obj D (.deferred (some [])) :: L) →
          ∃ w4, (Instr.endLoop l).run P w3 = .ok c w4 ∧ StX [] w0 w4 (obj D (.deferred (some [])) :: L) := by
        intro c L hS8
        have hl3 := hS8.at l (o := .loop (rec (if c.isNone then .ready else .done) c))
        have he := run_endLoop (P := P) hl3 (by rw [hrec]; cases c <;> simp)
        have hp : (rec (if c.isNone then .ready else .done) c).pending = c := by rw [hrec]
        refine ⟨_, he.trans (congrArg (fun p => Result.ok p _) hp), ?_⟩
        have hS9 : StX [] w0 _ (obj l (.loop { rec (if c.isNone then .ready else .done) c with state := .exhausted }) :: obj D (.deferred (some [])) :: L) := hS8.put (put_obj (o' := .loop { rec (if c.isNone then .ready else .done) c with state := .exhausted }) hl3)
        exact hS9.sub (List.sublist_cons_self _ _)
      rcases hcb with ⟨xs, hz, c, L, hc, rfl, hcb⟩ | ⟨xs, c, L, hc, rfl, hcb⟩
      · obtain rfl : c = none := by cases c with | none => rfl | some c => exact absurd hc (by simp)
        obtain ⟨w4, he, hS9⟩ := key none L hS7
        exact ⟨none, w4, he, hdone D w4 L xs hz hcb hS9⟩
      · cases c with
        | none => simp at hc
        | some c =>
          obtain ⟨w4, he, hS9⟩ := key (some c) L hS7
          exact ⟨some c, w4, he, hstop D w4 L c xs hcb hS9⟩
end
section
variable {P : Program} {ops : Array Oper} {Q : Exit → Act → World → Prop} {C : World → Prop} {m : Nat} {nf : Nat} {f : Fr} {w : World}
theorem f_gd {fuel : Nat} {listed : Array Bool} {d j dj : Nat} {want : Bool} {op : Op} {ty : TypeId} {pos : String} {af : Array Edge} {v : Value} (k : Nat) (hB : goB ops m listed k = true) (hi : ops[k]? = some ⟨some d, op, ty, pos, af, some (j, want)⟩)
    (hQ : ∀ c a a' w, Q (.panic c) a w → Q (.panic c) a' w) (hC : C w) (hr : Free P ops C ⟨some d, op, ty, pos, af, some (j, want)⟩ v (mk nf f)) (h : wpA P ops Q C m fuel (listed.setIfInBounds k true) nf (upd f d v) w) : wpA P ops Q C m (fuel + 1) listed nf f w := by
  simp only [goB, Bool.and_eq_true] at hB
  obtain ⟨⟨⟨hs, hrd⟩, hfr⟩, hlate⟩ := hB
  refine wpAC_first (v := v) hi (Region.noSelect_spec hs) hQ ?_ fuel listed (mk nf f) w hC (Region.free_spec hi hfr) (by simpa using hrd) hr ?_
  · intro j oj hoj hm
    have h1 := List.all_eq_true.1 hlate j (List.mem_range.2 (Array.getElem?_eq_some_iff.1 hoj).1)
    simp only [Bool.or_eq_true, Nat.blt_eq] at h1
    obtain ⟨oj', hoj', e, he, hb, hon⟩ := Region.waitsFor_spec (h1.resolve_left (by omega))
    rw [hoj] at hoj'
    obtain rfl := Option.some.inj hoj'
    exact ⟨e, he, hb, hon⟩
  · show wpAC P .any ops Q C m fuel (listed.setIfInBounds k true) ((mk nf f).put (some d) v) w
    rw [mk_put]
    exact h
theorem f_go {fuel : Nat} {listed : Array Bool} {d j dj : Nat} {want : Bool} {op : Op} {ty : TypeId} {pos : String} {af : Array Edge} {v : Value} (k : Nat) (hB : goB ops m listed k = true) (hi : ops[k]? = some ⟨some d, op, ty, pos, af, some (j, want)⟩)
    (hd : dstOf ops j = some dj) (hn : Nat.blt dj nf = true) (hQ : ∀ c a a' w, Q (.panic c) a w → Q (.panic c) a' w) (hC : C w) (hb : f dj = .bool want) (hr : ∀ w, C w → Y P (ev nf f) op ty w v w)
    (h : wpA P ops Q C m fuel (listed.setIfInBounds k true) nf (upd f d v) w) : wpA P ops Q C m (fuel + 1) listed nf f w := by
  rw [Nat.blt_eq] at hn
  have hy := yielded_eq (f := f) hd hn
  rw [hb] at hy
  exact f_gd (dj := dj) k hB hi hQ hC (.inl ⟨by simp [Region.wanted, hy], fun w hC => by rw [mk_eval, execOp_xop, hr w hC]⟩) h
theorem f_skip {fuel : Nat} {listed : Array Bool} {d j dj : Nat} {want : Bool} {op : Op} {ty : TypeId} {pos : String} {af : Array Edge} {u : Value} (k : Nat) (hB : goB ops m listed k = true) (hi : ops[k]? = some ⟨some d, op, ty, pos, af, some (j, want)⟩)
    (hd : dstOf ops j = some dj) (hn : Nat.blt dj nf = true) (hQ : ∀ c a a' w, Q (.panic c) a w → Q (.panic c) a' w) (hC : C w) (hb : f dj = u) (hu : u ≠ .bool want)
    (h : wpA P ops Q C m fuel (listed.setIfInBounds k true) nf (upd f d undef) w) : wpA P ops Q C m (fuel + 1) listed nf f w := by
  rw [Nat.blt_eq] at hn
  have hy := yielded_eq (f := f) hd hn
  rw [hb] at hy
  refine f_gd (dj := dj) k hB hi hQ hC (.inr ⟨?_, rfl⟩) h
  simp only [Region.wanted, hy]
  cases u <;> simp
  rename_i b
  intro hc
  exact hu (by rw [hc])
end
section
variable {P : Program} {ops : Array Oper} {Q : Exit → Act → World → Prop} {md : Region.Mode} {C : World → Prop} {R : Nat → World → World → Prop}
theorem getD_ff {l : Array Bool} {n : Nat} (h : l.getD n true = false) : l.getD n false = false := by
 rcases Nat.lt_or_ge n l.size with h' | h'
 ·
  simp [h'] at h ⊢; exact h
 ·
  simp [Array.getElem?_eq_none h'] at h
theorem wpAR_firstD {i : Nat} {oi : Oper} {v : Value} {X D : List Nat} (hR : ∀ i w, R i w w) (hRC : ∀ j w w', R j w w' → X.contains j = false → C w → C w') (hi : ops[i]? = some oi) (hsel : ∀ (j : Nat) (o : Oper) cs b, ops[j]? = some o → o.op ≠ .select cs b) (hQ : ∀ c a a' w, Q (.panic c) a w → Q (.panic c) a' w) :
    ∀ (fuel : Nat) (listed : Array Bool) (a : Act) (w : World), C w →
      (∀ j oj, ops[j]? = some oj → j ≠ i → listed.getD j true = false → (∀ e ∈ oj.after, Region.binds md e = true → e.on ≠ i) → oi.apart ops oj = true) →
      (∀ j ∈ X, listed.getD j true = true ∨ j ∈ D) → (∀ j ∈ D, listed.getD j true = false ∧ ∃ oj, ops[j]? = some oj ∧ ∃ e ∈ oj.after, Region.binds md e = true ∧ (e.on = i ∨ e.on ∈ D)) →
      i ∈ Region.ready md ops listed → Free P ops C oi v a →
      wpAR P md ops Q R fuel (listed.setIfInBounds i true) (a.put oi.dst v) w → wpAR P md ops Q R (fuel + 1) listed a w := by
  intro fuel
  induction fuel with
  | zero =>
    intro listed a w hC hfree hX hD hr hf H
    refine ⟨fun h => (by rw [h] at hr; cases hr), fun j hj => ?_⟩
    by_cases hji : j = i
    · subst hji; exact hf.op hi hC ⟨hR _ _, H⟩
    · have := ready_mono hj hji
      rw [H.1] at this
      cases this
  | succ fuel ih =>
    intro listed a w hC hfree hX hD hr hf H
    refine ⟨fun h => (by rw [h] at hr; cases hr), fun j hj => ?_⟩
    by_cases hji : j = i
    · subst hji; exact hf.op hi hC ⟨hR _ _, H⟩
    · have h1 := H.2 j (ready_mono hj hji)
      obtain ⟨hjun, oj, hoj, hall⟩ := mem_ready.1 hj
      have hifalse : listed.getD i false = false := getD_ff (mem_ready.1 hr).1
      have hnot : ∀ e ∈ oj.after, Region.binds md e = true → e.on ≠ i := fun e he hb heq => by
        have h0 := hall e he hb
        rw [heq, hifalse] at h0
        cases h0
      have hjD : j ∉ D := fun hd => by
        obtain ⟨-, oj', hoj', e, he, hb, hon⟩ := hD j hd
        rw [hoj] at hoj'
        obtain rfl := Option.some.inj hoj'
        rcases hon with hon | hon
        · exact hnot e he hb hon
        · have h0 := hall e he hb
          rw [getD_ff (hD _ hon).1] at h0
          cases h0
      have hjX : X.contains j = false := by
        cases hx : X.contains j with
        | false => rfl
        | true =>
          rcases hX j (by simpa using hx) with h | h
          · rw [hjun] at h; cases h
          · exact absurd h hjD
      have hap := hfree j oj hoj hji hjun hnot
      have hfree' : ∀ k ok, ops[k]? = some ok → k ≠ i → (listed.setIfInBounds j true).getD k true = false →
          (∀ e ∈ ok.after, Region.binds md e = true → e.on ≠ i) → oi.apart ops ok = true := fun k ok hk hki hun hno => by
        refine hfree k ok hk hki ?_ hno
        by_cases hjk : j = k
        · subst hjk; exact hjun
        · rw [getD_set_ne true hjk] at hun; exact hun
      have h2 := wpOp_frame hoj (wpOp_put hoj hap (fun cs b => hsel j oj cs b hoj) hQ h1)
      refine wpOp_mono ?_ h2
      rintro a' w' ⟨⟨u, ds, rfl⟩, h3, h4⟩
      refine ⟨h3, ih (listed.setIfInBounds j true) _ w' (hRC _ _ _ h3 hjX hC) hfree' (fun x hx => ?_) (fun d hd => ?_) (ready_mono hr (Ne.symm hji)) (hf.keep hap (fun cs b => hsel i oi cs b hi)) ?_⟩
      · by_cases hjx : j = x
        · subst hjx
          rcases hX j hx with h | h
          · rw [hjun] at h; cases h
          · exact .inr h
        · rw [getD_set_ne true hjx]; exact hX x hx
      · rw [getD_set_ne true (fun e => hjD (by rw [e]; exact hd))]; exact hD d hd
      · rw [Array.setIfInBounds_comm _ _ hji]
        exact h4
def clB (X1 X2 : List Nat) : Nat → List Nat
 | 0 => []
 | 1 => X1
 | _ => X2
def clX (C1 C2 : World → Prop) (X1 X2 : List Nat) (i : Nat) (w w' : World) : Prop := (X1.contains i = false → C1 w → C1 w') ∧ (X2.contains i = false → C2 w → C2 w')
def quB (ops : Array Oper) (X D : List Nat) (listed : Array Bool) (k : Nat) : Bool :=
 Region.noSelect ops && (Region.ready .any ops listed).contains k && Region.free .any ops listed k && (X.all fun j => listed.getD j true || D.contains j) &&
  D.all fun j => !listed.getD j true && match ops[j]? with | some o => o.after.any fun e => Region.binds .any e && (e.on == k || D.contains e.on) | none => false
variable {nf : Nat} {f : Fr} {w : World} {C1 C2 : World → Prop} {X1 X2 : List Nat}
def wpMA (P : Program) (ops : Array Oper) (Q : Exit → Act → World → Prop) (C1 C2 : World → Prop) (X1 X2 : List Nat) (fuel : Nat) (listed : Array Bool) (a : Act) (w : World) : Prop := (∀ c a a' w, Q (.panic c) a w → Q (.panic c) a' w) → wpAR P .any ops Q (clX C1 C2 X1 X2) fuel listed a w
def wpM (P : Program) (ops : Array Oper) (Q : Exit → Act → World → Prop) (C1 C2 : World → Prop) (X1 X2 : List Nat) (fuel : Nat) (listed : Array Bool) (nf : Nat) (f : Fr) (w : World) : Prop := wpMA P ops Q C1 C2 X1 X2 fuel listed (mk nf f) w
theorem mw {fuel : Nat} {listed : Array Bool} (h : wpM P ops Q C1 C2 X1 X2 fuel listed nf f w) : wpMA P ops Q C1 C2 X1 X2 fuel listed (mk nf f) w := h
theorem mq {fuel : Nat} {listed : Array Bool} {d : Nat} {op : Op} {ty : TypeId} {pos : String} {af : Array Edge} {v : Value} (c k : Nat) (D : List Nat) (hB : quB ops (clB X1 X2 c) D listed k = true) (hi : ops[k]? = some ⟨some d, op, ty, pos, af, none⟩)
    (hC : clC C1 C2 c w) (hr : ∀ w, clC C1 C2 c w → Y P (ev nf f) op ty w v w) (h : wpM P ops Q C1 C2 X1 X2 fuel (listed.setIfInBounds k true) nf (upd f d v) w) : wpM P ops Q C1 C2 X1 X2 (fuel + 1) listed nf f w := by
  intro hQ
  simp only [quB, Bool.and_eq_true] at hB
  obtain ⟨⟨⟨⟨hs, hrd⟩, hfr⟩, hX⟩, hD⟩ := hB
  refine wpAR_firstD (C := clC C1 C2 c) (X := clB X1 X2 c) (D := D) (v := v) (fun i w => ⟨fun _ h => h, fun _ h => h⟩) ?_ hi (Region.noSelect_spec hs) hQ fuel listed (mk nf f) w hC (Region.free_spec hi hfr) (fun j hj => ?_) (fun j hj => ?_) (by simpa using hrd) (.inl ⟨by simp [Region.wanted], fun w hC => by rw [mk_eval, execOp_xop, hr w hC]⟩) ?_
  · intro j w w' h1 h2 h3
    match c with
    | 0 => trivial
    | 1 => exact h1.1 h2 h3
    | _ + 2 => exact h1.2 h2 h3
  · have := List.all_eq_true.1 hX j hj
    simp only [Bool.or_eq_true] at this
    exact this.imp id (fun h => by simpa using h)
  · have h0 := List.all_eq_true.1 hD j hj
    simp only [Bool.and_eq_true, Bool.not_eq_true'] at h0
    refine ⟨h0.1, ?_⟩
    cases ho : ops[j]? with
    | none => rw [ho] at h0; cases h0.2
    | some o =>
      rw [ho] at h0
      obtain ⟨e, he, h1⟩ := Array.any_eq_true'.1 h0.2
      simp only [Bool.and_eq_true, Bool.or_eq_true, beq_iff_eq] at h1
      exact ⟨o, rfl, e, he, h1.1, h1.2.imp id (fun h => by simpa using h)⟩
  · have h := h hQ
    show wpAR P .any ops Q (clX C1 C2 X1 X2) fuel (listed.setIfInBounds k true) ((mk nf f).put (some d) v) w
    rw [mk_put]
    exact h
theorem ms {fuel : Nat} {listed : Array Bool} {i : Nat} {is : List Nat} (hr : Region.ready .any ops listed = i :: is)
    (h : AllOf (i :: is) fun i => ∃ o, ops[i]? = some o ∧ wpL P ops (Exit.then (fun a' w' => ((X1.contains i = false → C1 w → C1 w') ∧ (X2.contains i = false → C2 w → C2 w')) ∧ wpMA P ops Q C1 C2 X1 X2 fuel (listed.setIfInBounds i true) a' w') Q) nf [o] f w) : wpM P ops Q C1 C2 X1 X2 (fuel + 1) listed nf f w := by
  intro hQ
  refine ⟨fun h0 => (by rw [hr] at h0; cases h0), fun j hj => ?_⟩
  rw [hr] at hj
  obtain ⟨o, ho, hw⟩ := h.spec j hj
  have hK : ∀ (a' : Act) (w' : World), (((X1.contains j = false → C1 w → C1 w') ∧ (X2.contains j = false → C2 w → C2 w')) ∧ wpMA P ops Q C1 C2 X1 X2 fuel (listed.setIfInBounds j true) a' w') →
      (((X1.contains j = false → C1 w → C1 w') ∧ (X2.contains j = false → C2 w → C2 w')) ∧ wpAR P .any ops Q (clX C1 C2 X1 X2) fuel (listed.setIfInBounds j true) a' w') := fun a' w' h => ⟨h.1, h.2 hQ⟩
  unfold wpOp
  simp only [ho]
  unfold wpL at hw
  unfold wpList at hw
  split
  · rename_i hwd
    rw [if_pos hwd] at hw
    rcases hw with hw | ⟨h1, h2⟩
    · left
      unfold Oper.wp at hw ⊢
      generalize (execOp (mk nf f).eval o).run P w = r at hw ⊢
      cases r with
      | ok x w' =>
        cases x <;> simp only [Oper.upon] at hw ⊢ <;> first
          | exact hw
          | exact hK _ _ hw
          | (refine Calls.mono hw ?_
             intro e w'' he
             cases e <;> first
               | exact he
               | exact hK _ _ he)
          | exact hw.mono fun v w'' hv => hK _ _ hv
      | halt x w' => cases x <;> exact hw
    · exact .inr ⟨h1, h2⟩
  · rename_i hwd
    rw [if_neg hwd] at hw
    exact hK _ _ hw
theorem m1 {fuel : Nat} {listed : Array Bool} (i : Nat) {o : Oper} (hr : Region.ready .any ops listed = [i]) (ho : ops[i]? = some o)
    (h : wpL P ops (Exit.then (fun a' w' => ((X1.contains i = false → C1 w → C1 w') ∧ (X2.contains i = false → C2 w → C2 w')) ∧ wpMA P ops Q C1 C2 X1 X2 fuel (listed.setIfInBounds i true) a' w') Q) nf [o] f w) : wpM P ops Q C1 C2 X1 X2 (fuel + 1) listed nf f w :=
  ms hr ⟨⟨o, ho, h⟩, trivial⟩
theorem me {fuel : Nat} {listed : Array Bool} (hr : Region.ready .any ops listed = []) (h : Q .normal (mk nf f) w) : wpM P ops Q C1 C2 X1 X2 fuel listed nf f w := by
 intro hQ
 cases fuel with
 | zero => exact ⟨hr, h⟩
 | succ n => exact ⟨fun _ => h, fun i hi => by rw [hr] at hi; cases hi⟩
theorem region_m {S : List Nat} {w0 : World} {L : List Item} {id : Nat} {l : List Oper} (C1 C2 : World → Prop) (X1 X2 : List Nat) (hm : P.follows .mixedOrders = true) (hQ : ∀ c a a' w, Q (.panic c) a w → Q (.panic c) a' w) (hS : StX S w0 w L)
    (h : ∀ w, StX S w0 w L → wpM P l.toArray Q C1 C2 X1 X2 l.length (Array.replicate l.length false) nf f w) : (Code.region id l.toArray true).wp P Q (mk nf f) w := by
  refine wp_region_any hm (wpAny_of_AR (R := clX C1 C2 X1 X2) _ _ _ _ ?_)
  have h1 := h _ (hS.step (ext_drew w)) hQ
  simpa using h1
end
def Glb (w : World) : Prop := Cells w 0 0 [.int .i64 (-20000), .int .i64 20000]
theorem Glb.ext {w w' : World} (h : Glb w) (e : Ext w w') : Glb w' := Cells.ext e h
theorem RSgt.parts {w : World} {t : Sgt} {cv gv tv fv : Value} (h : RSgt w [.int .i64 t.table.mean, cv, gv, .int .i64 t.wrong, .int .i64 t.frm, .int .i64 t.ticks, tv, fv, .int .i64 t.least, .int .i64 t.most, .int .i64 t.rate, .int .i64 t.quorum] t) :
    RTable w [.int .i64 t.table.mean, cv] t.table ∧ Sl w 5 RGauge gv t.gauges ∧ I64 t.wrong ∧ I64 t.frm ∧ I64 t.ticks ∧ Sl w 4 RCtr tv t.ctrs ∧ Sl w 4 RFct fv t.fcs ∧ I64 t.least ∧ I64 t.most ∧ I64 t.rate ∧ I64 t.quorum := by
  obtain ⟨cv', gv', tv', fv', he, hh⟩ := h
  simp only [List.cons.injEq, and_true, true_and] at he
  obtain ⟨rfl, rfl, rfl, rfl⟩ := he
  exact hh
def RKn (w : World) (bk : Nat) (T : TypeId) (t : Sgt) (now : Int) (ov : Value) : Prop := ∃ cv ag cg ak ck ae ce aw cw ax cx,
 w.heap[bk]? = some (.cells [.int .i64 t.table.mean, cv, .slice ag t.gauges.length cg, .int .i64 t.wrong, .int .i64 t.frm, .int .i64 t.ticks, .slice ak t.ctrs.length ck, .slice ae t.fcs.length ce, .int .i64 t.least, .int .i64 t.most, .int .i64 t.rate, .int .i64 t.quorum, .int .i64 now, .slice aw t.ticks.toNat cw, .slice ax t.ctrs.length cx, ov].toArray T (0, 0)) ∧
 RTable w [.int .i64 t.table.mean, cv] t.table ∧ Sl w 5 RGauge (.slice ag t.gauges.length cg) t.gauges ∧ Sl w 4 RCtr (.slice ak t.ctrs.length ck) t.ctrs ∧ Sl w 4 RFct (.slice ae t.fcs.length ce) t.fcs ∧ Sl w 2 RSpan (.slice aw t.ticks.toNat cw) (tidesS t) ∧ Sl w 1 RInt (.slice ax t.ctrs.length cx) (curS t now)
theorem RKn.ext {w w' : World} {bk : Nat} {T : TypeId} {t : Sgt} {now : Int} {ov : Value} (h : RKn w bk T t now ov) (e : Ext w w') : RKn w' bk T t now ov := by
 obtain ⟨cv, ag, cg, ak, ck, ae, ce, aw, cw, ax, cx, h1, h2, h3, h4, h5, h6, h7⟩ := h
 exact ⟨cv, ag, cg, ak, ck, ae, ce, aw, cw, ax, cx, e.get h1, h2.ext e, h3.ext RGauge.stays e, h4.ext RCtr.stays e, h5.ext RFct.stays e, h6.ext RSpan.stays e, h7.ext RInt.stays e⟩
theorem spn_set {l : List Span} {i j : Nat} {s : Span} (hi : i < l.length) : spn (l.set i s) j = if i = j then s else spn l j := by
 unfold spn
 simp only [List.getD_eq_getElem?_getD, List.getElem?_set]
 split
 ·
  next h => subst h; simp [hi]
 ·
  rfl
theorem spn_ext {a b : List Span} (hl : a.length = b.length) (h : ∀ i, i < a.length → spn a i = spn b i) : a = b := by
 apply List.ext_getElem hl
 intro i hi hj
 have := h i hi
 rwa [spn_at (List.getElem?_eq_getElem hi), spn_at (List.getElem?_eq_getElem hj)] at this
def meetK (ss os : List Span) (o : Nat) : Nat → List Span
 | 0 => ss
 | k + 1 => (meetK ss os o k).set (o + k) (cutS (spn (meetK ss os o k) (o + k)) (spn os k))
theorem meetK_len (ss os : List Span) (o : Nat) : ∀ k, (meetK ss os o k).length = ss.length
 | 0 => rfl
 | k + 1 => by rw [meetK, List.length_set, meetK_len]
theorem meetK_at (ss os : List Span) (o : Nat) : ∀ k, o + k ≤ ss.length → ∀ i, i < ss.length → spn (meetK ss os o k) i = if o ≤ i ∧ i < o + k then cutS (spn ss i) (spn os (i - o)) else spn ss i
  | 0, _, i, _ => by rw [meetK, if_neg (by omega)]
  | k + 1, hk, i, hi => by
    rw [meetK, spn_set (by rw [meetK_len]; omega)]
    have ih := meetK_at ss os o k (by omega)
    by_cases e : o + k = i
    · subst e
      rw [if_pos rfl, if_pos (by omega), ih _ hi, if_neg (by omega), show o + k - o = k by omega]
    · rw [if_neg e, ih i hi]
      by_cases h : o ≤ i ∧ i < o + k
      · rw [if_pos h, if_pos (by omega)]
      · rw [if_neg h, if_neg (by omega)]
theorem meetK_all {ss os : List Span} (hl : ss.length = os.length) : meetK ss os 0 os.length = meetS ss os := by
 refine spn_ext (by rw [meetK_len, meetS_len hl]) fun i hi => ?_
 rw [meetK_len] at hi
 rw [meetK_at ss os 0 _ (by omega) i hi, if_pos (by omega), meetS_at hi (by omega), Nat.sub_zero]
theorem meetK_one (ss : List Span) (s : Span) (o : Nat) : meetK ss [s] o 1 = ss.set o (cutS (spn ss o) s) := rfl
section
variable {t : Sgt} {f : Fct} {l : List Int}
theorem tube_0 : tubeS t f [] = List.replicate t.ticks.toNat ⟨-20000, 20000⟩ := by
 refine spn_ext (by rw [tubeS_len, List.length_replicate]) fun i hi => ?_
 rw [tubeS_len] at hi
 rw [tubeS_at hi, spn_at (l := List.replicate _ _) (i := i) (s := ⟨-20000, 20000⟩) (by simp [hi])]
 unfold tubeAt
 rw [if_neg (by simp only [List.length_nil]; omega)]
theorem tube_out {k : Nat} (hk : k < l.length) (h : ¬ (0 ≤ f.frm + k - t.frm ∧ f.frm + k - t.frm < t.ticks)) : tubeS t f (l.take (k + 1)) = tubeS t f (l.take k) := by
 refine spn_ext (by rw [tubeS_len, tubeS_len]) fun i hi => ?_
 rw [tubeS_len] at hi
 rw [tubeS_at hi, tubeS_at hi]
 unfold tubeAt
 rw [List.length_take, List.length_take]
 by_cases hc : 0 ≤ t.frm + i - f.frm ∧ t.frm + i - f.frm < (min k l.length : Nat)
 ·
  rw [if_pos (by omega), if_pos hc]
  have e : ∀ q, (t.frm + (i : Int) - f.frm).toNat < q → (l.take q).getD (t.frm + i - f.frm).toNat 0 = l.getD (t.frm + i - f.frm).toNat 0 := fun q hq => by simp [List.getD, List.getElem?_take, hq]
  rw [e (k + 1) (by omega), e k (by omega)]
 ·
  rw [if_neg (by omega), if_neg hc]
theorem tube_in {k i : Nat} (hk : k < l.length) (hi : i < t.ticks.toNat) (h : f.frm + k - t.frm = i) : tubeS t f (l.take (k + 1)) = (tubeS t f (l.take k)).set i ⟨(tideS t i).lo + l.getD k 0 - wrongS t f (t.frm + i), (tideS t i).hi + l.getD k 0 + wrongS t f (t.frm + i)⟩ := by
 refine spn_ext (by rw [List.length_set, tubeS_len, tubeS_len]) fun j hj => ?_
 rw [tubeS_len] at hj
 rw [tubeS_at hj, spn_set (by rw [tubeS_len]; exact hi)]
 unfold tubeAt
 rw [List.length_take]
 by_cases e : i = j
 ·
  subst e
  rw [if_pos rfl, if_pos (by omega), show (t.frm + (i : Int) - f.frm).toNat = k by omega]
  simp [List.getD, List.getElem?_take]
 ·
  rw [if_neg e, tubeS_at hj]
  unfold tubeAt
  rw [List.length_take]
  by_cases hc : 0 ≤ t.frm + j - f.frm ∧ t.frm + j - f.frm < (min k l.length : Nat)
  ·
   rw [if_pos (by omega), if_pos hc]
   have e : ∀ q, (t.frm + (j : Int) - f.frm).toNat < q → (l.take q).getD (t.frm + j - f.frm).toNat 0 = l.getD (t.frm + j - f.frm).toNat 0 := fun q hq => by simp [List.getD, List.getElem?_take, hq]
   rw [e (k + 1) (by omega), e k (by omega)]
  ·
   rw [if_neg (by omega), if_neg hc]
end
def fwL (r : Int) (l : List Span) (i : Nat) : List Span := (List.range l.length).map fun j => if j < i then fwS r l j else spn l j
def bwL (r : Int) (l : List Span) (m : Nat) : List Span := (List.range l.length).map fun j => if l.length - 1 - m ≤ j then bwS r l (l.length - 1 - j) else fwS r l j
theorem fwL_len (r : Int) (l : List Span) (i : Nat) : (fwL r l i).length = l.length := by simp [fwL]
theorem bwL_len (r : Int) (l : List Span) (m : Nat) : (bwL r l m).length = l.length := by simp [bwL]
theorem fwL_at {r : Int} {l : List Span} {i j : Nat} (hj : j < l.length) : spn (fwL r l i) j = if j < i then fwS r l j else spn l j := spn_at (by simp [fwL, hj])
theorem bwL_at {r : Int} {l : List Span} {m j : Nat} (hj : j < l.length) : spn (bwL r l m) j = if l.length - 1 - m ≤ j then bwS r l (l.length - 1 - j) else fwS r l j := spn_at (by simp [bwL, hj])
theorem fwL_1 (r : Int) (l : List Span) : fwL r l 1 = l := by
  refine spn_ext (fwL_len ..) fun j hj => ?_
  rw [fwL_len] at hj
  rw [fwL_at hj]
  split
  · next h => obtain rfl : j = 0 := by omega
              rfl
  · rfl
theorem fwL_succ {r : Int} {l : List Span} {i : Nat} (h1 : 1 ≤ i) (hi : i < l.length) : fwL r l (i + 1) = (fwL r l i).set i (nearS r (spn (fwL r l i) i) (spn (fwL r l i) (i - 1))) := by
 refine spn_ext (by rw [List.length_set, fwL_len, fwL_len]) fun j hj => ?_
 rw [fwL_len] at hj
 rw [spn_set (by rw [fwL_len]; exact hi), fwL_at hj, fwL_at hj, fwL_at hi, fwL_at (show i - 1 < l.length by omega), if_neg (show ¬ i < i by omega), if_pos (show i - 1 < i by omega)]
 obtain ⟨q, rfl⟩ : ∃ q, i = q + 1 := ⟨i - 1, by omega⟩
 by_cases e : q + 1 = j
 ·
  subst e
  rw [if_pos (by omega), if_pos rfl]
  rfl
 ·
  rw [if_neg e]
  by_cases h : j < q + 1
  ·
   rw [if_pos (by omega), if_pos h]
  ·
   rw [if_neg (by omega), if_neg h]
theorem bwL_0 {r : Int} {l : List Span} (h : 0 < l.length) : bwL r l 0 = fwL r l l.length := by
 refine spn_ext (by rw [bwL_len, fwL_len]) fun j hj => ?_
 rw [bwL_len] at hj
 rw [bwL_at hj, fwL_at hj, if_pos hj]
 split
 ·
  rw [show l.length - 1 - j = 0 by omega, show j = l.length - 1 by omega]; rfl
 ·
  rfl
theorem bwL_succ {r : Int} {l : List Span} {m : Nat} (hm : m + 1 < l.length) : bwL r l (m + 1) = (bwL r l m).set (l.length - 1 - (m + 1)) (nearS r (spn (bwL r l m) (l.length - 1 - (m + 1))) (spn (bwL r l m) (l.length - 1 - m))) := by
 refine spn_ext (by rw [List.length_set, bwL_len, bwL_len]) fun j hj => ?_
 rw [bwL_len] at hj
 rw [spn_set (by rw [bwL_len]; omega), bwL_at hj, bwL_at hj, bwL_at (show l.length - 1 - (m + 1) < l.length by omega), bwL_at (show l.length - 1 - m < l.length by omega), if_neg (show ¬ l.length - 1 - m ≤ l.length - 1 - (m + 1) by omega), if_pos (Nat.le_refl (l.length - 1 - m))]
 by_cases e : l.length - 1 - (m + 1) = j
 ·
  subst e
  rw [if_pos (Nat.le_refl _), if_pos rfl, show l.length - 1 - (l.length - 1 - (m + 1)) = m + 1 by omega, show l.length - 1 - (l.length - 1 - m) = m by omega]
  rfl
 ·
  rw [if_neg e]
  by_cases h : l.length - 1 - m ≤ j
  ·
   rw [if_pos (by omega), if_pos h]
  ·
   rw [if_neg (by omega), if_neg h]
theorem fwL_sbd {B r : Int} (hr : 0 ≤ r) {l : List Span} (h : LBd B l) (i : Nat) : LBd B (fwL r l i) := fun j hj => by
 rw [fwL_len] at hj
 rw [fwL_at hj]
 split
 ·
  exact fw_sbd hr h j hj
 ·
  exact h j hj
theorem bwL_sbd {B r : Int} (hr : 0 ≤ r) {l : List Span} (h : LBd B l) (m : Nat) : LBd B (bwL r l m) := fun j hj => by
 rw [bwL_len] at hj
 rw [bwL_at hj]
 split
 ·
  exact bw_sbd hr h _ (by omega)
 ·
  exact fw_sbd hr h j hj
theorem fwL_end {r : Int} {l : List Span} {i : Nat} (h : l.length ≤ i) (hi : 1 ≤ i) : fwL r l i = bwL r l 0 := by
 rcases Nat.eq_zero_or_pos l.length with h0 | h0
 ·
  have : l = [] := List.eq_nil_of_length_eq_zero h0
  subst this; rfl
 ·
  rw [bwL_0 h0]
  refine spn_ext (by rw [fwL_len, fwL_len]) fun j hj => ?_
  rw [fwL_len] at hj
  rw [fwL_at hj, fwL_at hj, if_pos (by omega), if_pos hj]
theorem bwL_end {r : Int} {l : List Span} {m : Nat} (h : l.length ≤ m + 1) : bwL r l m = tightS r l := by
 refine spn_ext (by rw [bwL_len, tightS_len]) fun j hj => ?_
 rw [bwL_len] at hj
 rw [bwL_at hj, spn_at (tightS_get hj), if_pos (by omega)]
 rfl
theorem tight_swap {α : Type} (c b a : α) (L : List α) : (a :: b :: c :: L).Perm (c :: b :: a :: L) :=
 ((List.Perm.swap c b L).cons a).trans (.trans (.swap c a (b :: L)) ((List.Perm.swap b a L).cons c))
theorem with_perm {α : Type} (a b c d : α) : ([a, b, c, d] : List α).Perm [c, b, a, d] := (tight_swap a b c [d]).symm
theorem perm_c {α : Type} (a b c : α) (L : List α) : (a :: b :: c :: L).Perm (c :: a :: b :: L) := ((List.Perm.swap c b L).cons a).trans (List.Perm.swap c a (b :: L))
theorem sl_span1 {w : World} {b : Nat} {T : TypeId} {s : Span} (h : w.heap[b]? = some (.cells (spanC s).toArray T (0, 0))) (hs : I64 s.lo ∧ I64 s.hi) : Sl w 2 RSpan (.slice (some ⟨b, 0, none⟩) 1 1) [s] :=
 sl_of_blk (l := [s]) h (css := [spanC s]) (by simp) ⟨rfl, ⟨rfl, hs⟩, trivial⟩ (by show 1 ≤ 1000; decide) rfl
theorem fct_if {w : World} {a : Option Addr} {n c : Nat} {l : List Fct} (hF : Sl w 4 RFct (.slice a n c) l) (o : Int) (h : o < l.length) : ∃ b q, 0 ≤ o → a = some ⟨b, q, none⟩ ∧ w.cell? ⟨b, q + o.toNat * 4 + 1, none⟩ = some (.int .i64 (fct l o.toNat).issued) := by
 by_cases h0 : 0 ≤ o
 ·
  obtain ⟨b, q, cs, h1, h2, h3, h4, -⟩ := sl_at hF (fct_get (l := l) (i := o.toNat) (by omega))
  obtain ⟨mv, rfl, -⟩ := h4
  exact ⟨b, q, fun _ => ⟨h1, h3 1 _ rfl⟩⟩
 ·
  exact ⟨0, 0, fun k => absurd k h0⟩
theorem tight_perm (a b c : Item) (L : List Item) : (b :: c :: a :: L).Perm (a :: c :: b :: L) :=
 ((List.Perm.swap a c L).cons b).trans (.trans (.swap a b (c :: L)) (((List.Perm.swap c b L).cons a)))
section
variable {t : Sgt} {now : Int}
def surgeK (t : Sgt) (k : Nat) : List Span := (List.range t.ticks.toNat).map fun i => if i < k then (⟨(tideS t i).lo + t.least, (tideS t i).hi + t.most⟩ : Span) else ⟨0, 0⟩
theorem surgeK_len (t : Sgt) (k : Nat) : (surgeK t k).length = t.ticks.toNat := by simp [surgeK]
theorem surgeK_at {k i : Nat} (hi : i < t.ticks.toNat) : spn (surgeK t k) i = if i < k then (⟨(tideS t i).lo + t.least, (tideS t i).hi + t.most⟩ : Span) else ⟨0, 0⟩ := spn_at (by simp [surgeK, hi])
theorem surgeK_0 (t : Sgt) : surgeK t 0 = List.replicate t.ticks.toNat ⟨0, 0⟩ := by
 refine spn_ext (by rw [surgeK_len, List.length_replicate]) fun i hi => ?_
 rw [surgeK_len] at hi
 rw [surgeK_at hi, if_neg (Nat.not_lt_zero _), spn_at (l := List.replicate _ _) (i := i) (s := ⟨0, 0⟩) (by simp [hi])]
theorem surgeK_succ {k : Nat} (hk : k < t.ticks.toNat) : surgeK t (k + 1) = (surgeK t k).set k ⟨(tideS t k).lo + t.least, (tideS t k).hi + t.most⟩ := by
 refine spn_ext (by rw [List.length_set, surgeK_len, surgeK_len]) fun i hi => ?_
 rw [surgeK_len] at hi
 rw [surgeK_at hi, spn_set (by rw [surgeK_len]; exact hk), surgeK_at hi]
 by_cases e : k = i
 ·
  subst e; rw [if_pos (Nat.lt_succ_self _), if_pos rfl]
 ·
  rw [if_neg e]
  by_cases h : i < k
  ·
   rw [if_pos (by omega), if_pos h]
  ·
   rw [if_neg (by omega), if_neg h]
def baseK (t : Sgt) (now : Int) (k : Nat) : List Span := (List.range t.ticks.toNat).map fun i => if i < k then baseAt t now i else surgeAt t i
theorem baseK_len (t : Sgt) (now : Int) (k : Nat) : (baseK t now k).length = t.ticks.toNat := by simp [baseK]
theorem baseK_at {k i : Nat} (hi : i < t.ticks.toNat) : spn (baseK t now k) i = if i < k then baseAt t now i else surgeAt t i := spn_at (by simp [baseK, hi])
theorem baseK_0 : baseK t now 0 = meetS (List.replicate t.ticks.toNat ⟨-20000, 20000⟩) (surgeK t t.ticks.toNat) := by
 have hl : (List.replicate t.ticks.toNat (⟨-20000, 20000⟩ : Span)).length = (surgeK t t.ticks.toNat).length := by rw [surgeK_len, List.length_replicate]
 refine spn_ext (by rw [baseK_len, meetS_len hl, List.length_replicate]) fun i hi => ?_
 rw [baseK_len] at hi
 rw [baseK_at hi, if_neg (Nat.not_lt_zero _), meetS_at (by simpa using hi) (by rw [surgeK_len]; exact hi), surgeK_at hi, if_pos hi, spn_at (l := List.replicate _ _) (i := i) (s := ⟨-20000, 20000⟩) (by simp [hi])]
 rfl
theorem meet_base : meetK (List.replicate t.ticks.toNat ⟨-20000, 20000⟩) (surgeK t t.ticks.toNat) 0 (surgeK t t.ticks.toNat).length = baseK t now 0 := by
 rw [meetK_all (by rw [surgeK_len, List.length_replicate]), baseK_0]
theorem baseK_all : baseK t now t.ticks.toNat = baseS t now := by
 refine spn_ext (by rw [baseK_len, baseS_len]) fun i hi => ?_
 rw [baseK_len] at hi
 rw [baseK_at hi, if_pos hi, spn_at (baseS_get hi)]
theorem baseK_none (hg : t.gauges = []) (k : Nat) : baseK t now k = baseS t now := by
 refine spn_ext (by rw [baseK_len, baseS_len]) fun i hi => ?_
 rw [baseK_len] at hi
 have e : baseAt t now i = surgeAt t i := by unfold baseAt; rw [if_neg (fun h => h.1 hg)]
 rw [baseK_at hi, spn_at (baseS_get hi), e, ite_self]
theorem baseK_yes {k : Nat} (hk : k < t.ticks.toNat) (hg : t.gauges ≠ []) (hs : (soundF t.gauges t.wrong (t.frm + k) now).2 = 0) : baseK t now (k + 1) = (baseK t now k).set k (cutS (spn (baseK t now k) k) (soundF t.gauges t.wrong (t.frm + k) now).1) := by
 refine spn_ext (by rw [List.length_set, baseK_len, baseK_len]) fun i hi => ?_
 rw [baseK_len] at hi
 rw [baseK_at hi, spn_set (by rw [baseK_len]; exact hk), baseK_at hi, baseK_at hk, if_neg (Nat.lt_irrefl k)]
 by_cases e : k = i
 ·
  subst e
  rw [if_pos (Nat.lt_succ_self _), if_pos rfl]
  unfold baseAt
  rw [if_pos ⟨hg, hs⟩]
 ·
  rw [if_neg e]
  by_cases h : i < k
  ·
   rw [if_pos (by omega), if_pos h]
  ·
   rw [if_neg (by omega), if_neg h]
theorem baseK_no {k : Nat} (hs : ¬ (soundF t.gauges t.wrong (t.frm + k) now).2 = 0) : baseK t now (k + 1) = baseK t now k := by
 refine spn_ext (by rw [baseK_len, baseK_len]) fun i hi => ?_
 rw [baseK_len] at hi
 rw [baseK_at hi, baseK_at hi]
 by_cases e : k = i
 ·
  subst e
  rw [if_pos (Nat.lt_succ_self _), if_neg (Nat.lt_irrefl k)]
  unfold baseAt
  rw [if_neg (fun h => hs h.2)]
 ·
  by_cases h : i < k
  ·
   rw [if_pos (by omega), if_pos h]
  ·
   rw [if_neg (by omega), if_neg h]
theorem surgeK_sbd (h : SgOk t) (k : Nat) : LBd 40000000 (surgeK t k) := fun i hi => by
 rw [surgeK_len] at hi
 rw [surgeK_at hi]
 have ht := tide_sbd h i
 have hn := h.nums4
 split
 ·
  unfold SBd at *; simp only; omega
 ·
  unfold SBd; simp only; omega
end
def chC (c : List Int) : List Value := [.int .i64 (c.getD 0 0), .int .i64 (c.getD 1 0), .int .i64 (c.getD 2 0), .int .i64 (c.getD 3 0)]
theorem chC_set (v : Int) : ∀ (c : List Int), c.length < 4 → splice (chC c) c.length [.int .i64 v] = chC (c ++ [v])
 | [], _ => rfl
 | [a], _ => rfl
 | [a, b], _ => rfl
 | [a, b, d], _ => rfl
 | _ :: _ :: _ :: _ :: l, h => by simp at h; omega
theorem chC_set2 (u v : Int) : ∀ (c : List Int), c.length < 4 → splice (chC (c ++ [u])) c.length [.int .i64 v] = chC (c ++ [v])
 | [], _ => rfl
 | [a], _ => rfl
 | [a, b], _ => rfl
 | [a, b, d], _ => rfl
 | _ :: _ :: _ :: _ :: l, h => by simp at h; omega
theorem chC_take : ∀ (c : List Int), c.length ≤ 4 → (chC c).take c.length = c.flatMap encI
 | [], _ => rfl
 | [a], _ => rfl
 | [a, b], _ => rfl
 | [a, b, d], _ => rfl
 | [a, b, d, e], _ => rfl
 | _ :: _ :: _ :: _ :: _ :: l, h => by simp at h
abbrev ChX := (List Int × List Span) × Value
def encCh (x : ChX) : List Value := [.agg (chC x.1.1).toArray, x.2]
def RdC (bk : Nat) (T : TypeId) (kc : List Value) (t : Sgt) (now : Int) (aw ax asv : Option Addr) (cw cx csv : Nat) (sp : List Span) (w : World) : Prop :=
 w.heap[bk]? = some (.cells kc.toArray T (0, 0)) ∧ Sl w 2 RSpan (.slice aw t.ticks.toNat cw) (tidesS t) ∧ Sl w 1 RInt (.slice ax t.ctrs.length cx) (curS t now) ∧ Sl w 2 RSpan (.slice asv t.ticks.toNat csv) sp
def ChT (Rd : World → Prop) (n : Nat) (xs : List (List Int × List Span)) (tr : List ChX) (M : List Item) : Prop :=
 tr.map (·.1) <+: xs ∧ ∀ x, tr.getLast? = some x → (∃ a c, x.2 = .slice a n c) ∧ ∀ w, (∀ it ∈ M, it.ok w) → Rd w → Sl w 2 RSpan x.2 x.1.2
def ChZ (xs : List (List Int × List Span)) (tr : List ChX) : Prop := tr.map (·.1) = xs
theorem ChT.mk {Rd : World → Prop} {n : Nat} {xs : List (List Int × List Span)} {pre : List ChX} {x : ChX} {M : List Item} (h1 : (pre ++ [x]).map (·.1) <+: xs) (h2 : ∃ a c, x.2 = .slice a n c) (h3 : ∀ w, (∀ it ∈ M, it.ok w) → Rd w → Sl w 2 RSpan x.2 x.1.2) : ChT Rd n xs (pre ++ [x]) M :=
 ⟨h1, fun y hy => by
  rw [List.getLast?_append] at hy
  simp at hy
  subst hy
  exact ⟨h2, h3⟩⟩
theorem ChT.last {Rd : World → Prop} {n : Nat} {xs : List (List Int × List Span)} {pre : List ChX} {x : ChX} {M : List Item} (h : ChT Rd n xs (pre ++ [x]) M) : (pre ++ [x]).map (·.1) <+: xs ∧ (∃ a c, x.2 = .slice a n c) ∧ ∀ w, (∀ it ∈ M, it.ok w) → Rd w → Sl w 2 RSpan x.2 x.1.2 := by
 obtain ⟨h1, h2⟩ := h
 exact ⟨h1, h2 x (by simp)⟩
theorem perm_mid {α : Type} (A L M : List α) : (A ++ (L ++ M)).Perm ((A ++ M) ++ L) := by
 rw [List.append_assoc]
 exact List.perm_append_comm.append_left A
theorem RdC.kn {bk : Nat} {T : TypeId} {t : Sgt} {now : Int} {cv ov : Value} {ag ak ae aw ax asv : Option Addr} {cg ck ce cw cx csv : Nat} {sp : List Span} {w : World}
    (h : RdC bk T [.int .i64 t.table.mean, cv, .slice ag t.gauges.length cg, .int .i64 t.wrong, .int .i64 t.frm, .int .i64 t.ticks, .slice ak t.ctrs.length ck, .slice ae t.fcs.length ce, .int .i64 t.least, .int .i64 t.most, .int .i64 t.rate, .int .i64 t.quorum, .int .i64 now, .slice aw t.ticks.toNat cw, .slice ax t.ctrs.length cx, ov] t now aw ax asv cw cx csv sp w)
    (hT : RTable w [.int .i64 t.table.mean, cv] t.table) (hG : Sl w 5 RGauge (.slice ag t.gauges.length cg) t.gauges) (hC : Sl w 4 RCtr (.slice ak t.ctrs.length ck) t.ctrs) (hF : Sl w 4 RFct (.slice ae t.fcs.length ce) t.fcs) : RKn w bk T t now ov :=
  ⟨cv, ag, cg, ak, ck, ae, ce, aw, cw, ax, cx, h.1, hT, hG, hC, hF, h.2.1, h.2.2.1⟩
theorem sl_cell {w : World} {b o n c : Nat} {l : List Int} (h : Sl w 1 RInt (.slice (some ⟨b, o, none⟩) n c) l) {i : Nat} {x : Int} (hx : l[i]? = some x) : w.cell? ⟨b, o + i * 1, none⟩ = some (.int .i64 x) := by
 obtain ⟨b', o', cs, h1, h2, h3, h4, -⟩ := sl_at h hx
 cases h1
 obtain ⟨rfl, -⟩ := h4
 exact h3 0 _ rfl
section
variable {t : Sgt} {cs : List Int}
theorem ch_zero {c : List Int} {many : Int} {s : List Span} : chS t cs 0 c many s = if many = 0 then [(c, s)] else [] := by rw [chS]
def chM (t : Sgt) (cs : List Int) (n : Nat) (c : List Int) (many : Int) (s : List Span) (f : Fct) (k : Nat) : List (List Int × List Span) := (List.range k).flatMap fun (m : Nat) => chS t cs n (c ++ [(m : Int)]) (many - 1) (meetS s (tubeS t f (mem f m)))
theorem ch_skip {n : Nat} {c : List Int} {many : Int} {s : List Span} (h : cs.getD c.length (-1) < 0 ∨ many = 0) : chS t cs (n + 1) c many s = chS t cs n (c ++ [-1]) many s := by rw [chS, if_pos h, List.append_nil]
theorem ch_more {n : Nat} {c : List Int} {many : Int} {s : List Span} (h : ¬ (cs.getD c.length (-1) < 0 ∨ many = 0)) : chS t cs (n + 1) c many s = chS t cs n (c ++ [-1]) many s ++ chM t cs n c many s (fct t.fcs (cs.getD c.length (-1)).toNat) (fct t.fcs (cs.getD c.length (-1)).toNat).members.length := by rw [chS, if_neg h]; rfl
theorem ch_first {n : Nat} {c : List Int} {many : Int} {s : List Span} : chS t cs n (c ++ [-1]) many s <+: chS t cs (n + 1) c many s := by
 rw [chS]
 exact List.prefix_append ..
theorem chM_succ {n : Nat} {c : List Int} {many : Int} {s : List Span} {f : Fct} {k : Nat} : chM t cs n c many s f (k + 1) = chM t cs n c many s f k ++ chS t cs n (c ++ [(k : Int)]) (many - 1) (meetS s (tubeS t f (mem f k))) := by
 unfold chM
 rw [List.range_succ, List.flatMap_append, List.flatMap_singleton]
theorem chM_pre {n : Nat} {c : List Int} {many : Int} {s : List Span} {f : Fct} : ∀ {j k : Nat}, j ≤ k → chM t cs n c many s f j <+: chM t cs n c many s f k
  | j, 0, h => by obtain rfl : j = 0 := by omega
                  exact List.prefix_refl _
  | j, k + 1, h => by
    by_cases e : j = k + 1
    · subst e; exact List.prefix_refl _
    · exact (chM_pre (j := j) (k := k) (by omega)).trans (by rw [chM_succ]; exact List.prefix_append ..)
end
def bxC (frm : Int) (c : List Int) (m l h : Value) : List Value := [.int .i64 (c.getD 0 0), .int .i64 (c.getD 1 0), .int .i64 (c.getD 2 0), .int .i64 (c.getD 3 0), m, .int .i64 frm, l, .int .i64 frm, h]
def RBx (frm : Int) (w : World) (cs : List Value) (b : Bo) : Prop := ∃ m l h, cs = bxC frm b.mem m l h ∧ b.mem.length ≤ 4 ∧ Sl w 1 RInt m b.mem ∧ Sl w 1 RInt l (lowB b) ∧ Sl w 1 RInt h (highB b)
theorem RBx.stays (frm : Int) : Stays (RBx frm) := fun _ _ _ _ e ⟨m, l, h, h1, h2, h3, h4, h5⟩ => ⟨m, l, h, h1, h2, h3.ext RInt.stays e, h4.ext RInt.stays e, h5.ext RInt.stays e⟩
def bxCs (frm : Int) : List (List Int) → List Value → List Value → List Value → List (List Value)
 | c :: cs, m :: ms, l :: ls, h :: hs => bxC frm c m l h :: bxCs frm cs ms ls hs
 | _, _, _, _ => []
theorem bxCs_snoc (frm : Int) (c : List Int) (m l h : Value) : ∀ {cs : List (List Int)} {ms ls hs : List Value}, ms.length = cs.length → ls.length = cs.length → hs.length = cs.length → bxCs frm (cs ++ [c]) (ms ++ [m]) (ls ++ [l]) (hs ++ [h]) = bxCs frm cs ms ls hs ++ [bxC frm c m l h]
  | [], [], [], [], _, _, _ => rfl
  | c' :: cs, m' :: ms, l' :: ls, h' :: hs, h1, h2, h3 => by
    show bxC frm c' m' l' h' :: bxCs frm (cs ++ [c]) (ms ++ [m]) (ls ++ [l]) (hs ++ [h]) = bxC frm c' m' l' h' :: (bxCs frm cs ms ls hs ++ [bxC frm c m l h])
    rw [bxCs_snoc frm c m l h (by simpa using h1) (by simpa using h2) (by simpa using h3)]
  | [], _ :: _, _, _, h, _, _ => by simp at h
  | [], [], _ :: _, _, _, h, _ => by simp at h
  | [], [], [], _ :: _, _, _, h => by simp at h
  | _ :: _, [], _, _, h, _, _ => by simp at h
  | _ :: _, _ :: _, [], _, _, h, _ => by simp at h
  | _ :: _, _ :: _, _ :: _, [], _, _, h => by simp at h
theorem bxCs_rows {frm : Int} {w : World} : ∀ {bs : List Bo} {ms ls hs : List Value}, ms.length = bs.length → ls.length = bs.length → hs.length = bs.length → (∀ b ∈ bs, b.mem.length ≤ 4 ∧ (∀ x ∈ b.mem, I64 x) ∧ (∀ x ∈ lowB b, I64 x) ∧ ∀ x ∈ highB b, I64 x) →
    (∀ it ∈ inI ms (bs.map (·.mem)), it.ok w) → (∀ it ∈ inI ls (bs.map lowB), it.ok w) → (∀ it ∈ inI hs (bs.map highB), it.ok w) → Bx.Rows w 9 (RBx frm) (bxCs frm (bs.map (·.mem)) ms ls hs) bs
  | [], [], [], [], _, _, _, _, _, _, _ => trivial
  | b :: bs, m :: ms, l :: ls, h :: hs, h1, h2, h3, hb, i1, i2, i3 => by
    obtain ⟨b1, b2, b3, b4⟩ := hb b (List.mem_cons_self ..)
    refine ⟨rfl, ⟨m, l, h, rfl, b1, sl_ints (i1 (inR m b.mem) (List.mem_cons_self ..)) rfl b2, sl_ints (i2 (inR l (lowB b)) (List.mem_cons_self ..)) rfl b3, sl_ints (i3 (inR h (highB b)) (List.mem_cons_self ..)) rfl b4⟩, ?_⟩
    exact bxCs_rows (by simpa using h1) (by simpa using h2) (by simpa using h3) (fun x hx => hb x (List.mem_cons_of_mem _ hx)) (fun it hit => i1 it (List.mem_cons_of_mem _ hit)) (fun it hit => i2 it (List.mem_cons_of_mem _ hit)) (fun it hit => i3 it (List.mem_cons_of_mem _ hit))
  | [], _ :: _, _, _, h, _, _, _, _, _, _ => by simp at h
  | [], [], _ :: _, _, _, h, _, _, _, _, _ => by simp at h
  | [], [], [], _ :: _, _, _, h, _, _, _, _ => by simp at h
  | _ :: _, [], _, _, h, _, _, _, _, _, _ => by simp at h
  | _ :: _, _ :: _, [], _, _, h, _, _, _, _, _ => by simp at h
  | _ :: _, _ :: _, _ :: _, [], _, _, h, _, _, _, _ => by simp at h
section
variable {t : Sgt} {now : Int}
theorem ch_mem (h : SgOk t) : ∀ (n : Nat) (c : List Int) (many : Int) (s : List Span), (∀ x ∈ c, I64 x) → ∀ x ∈ chS t (curS t now) n c many s, ∀ y ∈ x.1, I64 y
  | 0, c, many, s, hc, x, hx => by
    unfold chS at hx
    split at hx
    · obtain rfl : x = (c, s) := by simpa using hx
      exact hc
    · simp at hx
  | n + 1, c, many, s, hc, x, hx => by
    rw [chS, List.mem_append] at hx
    have app : ∀ v : Int, I64 v → ∀ x ∈ c ++ [v], I64 x := fun v hv x hx => by
      rcases List.mem_append.1 hx with hx | hx
      · exact hc x hx
      · rw [List.mem_singleton.1 hx]; exact hv
    rcases hx with hx | hx
    · exact ch_mem h n _ _ _ (app (-1) (by decide)) x hx
    · split at hx
      · simp at hx
      · next hk =>
        obtain ⟨m, hm, hx⟩ := List.mem_flatMap.1 hx
        have hm := List.mem_range.1 hm
        by_cases hcl : c.length < t.ctrs.length
        · have h0 : 0 ≤ (curS t now).getD c.length (-1) := by omega
          rw [cur_at hcl] at h0 hm
          obtain ⟨-, hf⟩ := cur_fct h h0
          have := hf.nm
          exact ch_mem h n _ _ _ (app m ⟨by omega, by omega⟩) x hx
        · rw [cur_out hcl] at hk
          exact absurd (Or.inl (by decide)) hk
theorem box_ok (h : SgOk t) {b : Bo} (hb : b ∈ boxS t now) : b.mem.length ≤ 4 ∧ (∀ x ∈ b.mem, I64 x) ∧ (∀ x ∈ lowB b, I64 x) ∧ ∀ x ∈ highB b, I64 x := by
 have hl := box_len hb
 have hs := lbd_i64 (box_lbd h hb)
 have hnc := h.nc
 obtain ⟨x, hx, -, rfl⟩ := box_mem.1 hb
 refine ⟨by omega, ch_mem h _ _ _ _ (fun x hx => by cases hx) x hx, fun v hv => ?_, fun v hv => ?_⟩
 ·
  obtain ⟨s, hs2, rfl⟩ := List.mem_map.1 hv
  exact (hs s hs2).1
 ·
  obtain ⟨s, hs2, rfl⟩ := List.mem_map.1 hv
  exact (hs s hs2).2
def boxL (t : Sgt) (tr : List (List Int × List Span)) : List Bo := tr.filterMap (boxOf t.rate)
theorem boxL_snoc (tr : List (List Int × List Span)) (x : List Int × List Span) : boxL t (tr ++ [x]) = boxL t tr ++ if someT t.rate x.2 = true then [⟨x.1, tightS t.rate x.2⟩] else [] := by
 unfold boxL
 rw [List.filterMap_append]
 congr 1
 simp only [List.filterMap_cons, List.filterMap_nil, boxOf]
 split <;> simp_all
theorem cho_bd (h : SgOk t) : (choS t now).length ≤ 625 := by
 have key : ∀ (n : Nat) (c : List Int) (many : Int) (s : List Span), n ≤ 4 → c.length + n ≤ t.ctrs.length → (chS t (curS t now) n c many s).length ≤ 5 ^ n := fun n => by
  induction n with
  | zero => intro c many s _ _; rw [chS]; split <;> simp
  | succ n ih =>
   intro c many s hn hc
   rw [chS, List.length_append]
   have h1 := ih (c ++ [-1]) many s (by omega) (by simp; omega)
   have h5 : 5 ^ (n + 1) = 5 ^ n + 4 * 5 ^ n := by rw [Nat.pow_succ]; omega
   split
   ·
    simp; omega
   ·
    next hk =>
    have h0 : 0 ≤ (curS t now).getD c.length (-1) := by omega
    rw [cur_at (by omega)] at h0 ⊢
    obtain ⟨-, hf⟩ := cur_fct h h0
    have hm := hf.nm.2
    generalize fct t.fcs (curOf t now c.length).toNat = f at *
    have h2 : ∀ q, q ≤ 4 → ((List.range q).flatMap fun (m : Nat) => chS t (curS t now) n (c ++ [(m : Int)]) (many - 1) (meetS s (tubeS t f (mem f m)))).length ≤ q * 5 ^ n := fun q => by
     induction q with
     | zero => intro _; simp
     | succ q ihq =>
      intro hq
      rw [List.range_succ, List.flatMap_append, List.length_append, List.flatMap_singleton, Nat.succ_mul]
      have h3 := ihq (by omega)
      have h4 := ih (c ++ [(q : Int)]) (many - 1) (meetS s (tubeS t f (mem f q))) (by omega) (by simp; omega)
      omega
    have h3 := h2 _ hm
    have h4 : f.members.length * 5 ^ n ≤ 4 * 5 ^ n := Nat.mul_le_mul_right _ hm
    omega
 have hnc := h.nc
 have h1 := key t.ctrs.length [] (needS t now) (baseS t now) (by omega) (by simp)
 have h2 : 5 ^ t.ctrs.length ≤ 5 ^ 4 := Nat.pow_le_pow_right (by decide) (by omega)
 unfold choS
 have h3 : 5 ^ 4 = 625 := by decide
 omega
theorem boxL_len {tr : List (List Int × List Span)} : (boxL t tr).length ≤ tr.length := List.length_filterMap_le ..
theorem need_le (h : SgOk t) : needS t now ≤ 4 := by
 have := h.nums4.2.2.2
 have hnc := h.nc
 unfold needS; omega
end
section
variable {P : Program} {ρ : Operand → Value} {w : World} {ty : TypeId}
theorem ySlA {T E : TypeId} {x xj : Operand} {b j m k : Nat} {kd : IntKind} (hx : ρ x = .pointer (some ⟨b, 0, none⟩)) (hj : ρ xj = .int kd (j : Int)) (hu : ∀ w, (underlying T).run P w = .ok (.array m E) w) (hs : ∀ w, (Go.sizeOf E).run P w = .ok k w) (hm : j ≤ m) :
    Y P ρ (.slice T x none (some xj) none) ty w (.slice (some ⟨b, 0, none⟩) j m) w := by
  have hb : (0 : Int) ≤ (j : Int) ∧ (j : Int) ≤ (m : Int) := ⟨by omega, by omega⟩
  have ha : (⟨b, 0, none⟩ : Addr).add 0 = ⟨b, 0, none⟩ := by rw [addr_add]
  by_cases h0 : m = 0
  · subst h0
    simp [Y, xop, execOp, hx, hj, Instr.sliceAt, hu, Instr.sureAddr, Instr.sliceBounds, Instr.sliceBound, asIntOf, hb, hs]
    intro hc; omega
  · simp [Y, xop, execOp, hx, hj, Instr.sliceAt, hu, Instr.sureAddr, Instr.sliceBounds, Instr.sliceBound, asIntOf, hb, hs, h0, ha]
    intro hc; omega
end
end Bx
namespace Go.Proofs.YtchbdfcbogjhcaaGreatDoor
open Go Bx Go.Proofs.Tryz
variable {ρ : Operand → Value} {w : World} {ty : TypeId}
theorem mixed : Tryz.prog.follows .mixedOrders = true := by kernel_rfl
abbrev FaQ (T i d : Nat) : Prop := ∀ {ρ : Operand → Value} {w : World} {ty : TypeId} {x : Operand} {b o : Nat}, ρ x = .pointer (some ⟨b, o, none⟩) → Y Tryz.prog ρ (.fieldAddr T x i) ty w (.pointer (some ⟨b, o + d, none⟩)) w
theorem fa24_0 : FaQ 24 0 0 := fun h => yFA h runUnderlying24 rfl rfl sizeOf3 (by decide)
theorem fa24_1 : FaQ 24 1 1 := fun h => yFA h runUnderlying24 rfl rfl sizeOf22 (by decide)
theorem fa29_0 : FaQ 29 0 0 := fun h => yFA h runUnderlying29 rfl rfl sizeOf24 (by decide)
theorem fa29_1 : FaQ 29 1 2 := fun h => yFA h runUnderlying29 rfl rfl sizeOf25 (by decide)
theorem fa29_2 : FaQ 29 2 3 := fun h => yFA h runUnderlying29 rfl rfl sizeOf3 (by decide)
theorem fa29_3 : FaQ 29 3 4 := fun h => yFA h runUnderlying29 rfl rfl sizeOf3 (by decide)
theorem fa29_4 : FaQ 29 4 5 := fun h => yFA h runUnderlying29 rfl rfl sizeOf3 (by decide)
theorem fa29_5 : FaQ 29 5 6 := fun h => yFA h runUnderlying29 rfl rfl sizeOf26 (by decide)
theorem fa29_6 : FaQ 29 6 7 := fun h => yFA h runUnderlying29 rfl rfl sizeOf27 (by decide)
theorem fa29_7 : FaQ 29 7 8 := fun h => yFA h runUnderlying29 rfl rfl sizeOf3 (by decide)
theorem fa29_8 : FaQ 29 8 9 := fun h => yFA h runUnderlying29 rfl rfl sizeOf3 (by decide)
theorem fa29_9 : FaQ 29 9 10 := fun h => yFA h runUnderlying29 rfl rfl sizeOf3 (by decide)
theorem fa29_10 : FaQ 29 10 11 := fun h => yFA h runUnderlying29 rfl rfl sizeOf3 (by decide)
theorem fa32_0 : FaQ 32 0 0 := fun h => yFA h runUnderlying32 rfl rfl sizeOf3 (by decide)
theorem fa32_1 : FaQ 32 1 1 := fun h => yFA h runUnderlying32 rfl rfl sizeOf30 (by decide)
theorem pl32 : Places Tryz.prog 32 #[(0, 1), (1, 1)] := ⟨_, Tryz.underlying32, fun w => by simp [Tryz.sizeOf3, Tryz.sizeOf30]⟩
theorem fa34_0 : FaQ 34 0 0 := fun h => yFA h runUnderlying34 rfl rfl sizeOf29 (by decide)
theorem fa34_1 : FaQ 34 1 12 := fun h => yFA h runUnderlying34 rfl rfl sizeOf3 (by decide)
theorem fa34_2 : FaQ 34 2 13 := fun h => yFA h runUnderlying34 rfl rfl sizeOf32 (by decide)
theorem fa38_0 : FaQ 38 0 0 := fun h => yFA h runUnderlying38 rfl rfl sizeOf35 (by decide)
theorem fa38_1 : FaQ 38 1 1 := fun h => yFA h runUnderlying38 rfl rfl sizeOf3 (by decide)
theorem fa38_2 : FaQ 38 2 2 := fun h => yFA h runUnderlying38 rfl rfl sizeOf3 (by decide)
theorem fa38_3 : FaQ 38 3 3 := fun h => yFA h runUnderlying38 rfl rfl sizeOf3 (by decide)
theorem fa38_4 : FaQ 38 4 4 := fun h => yFA h runUnderlying38 rfl rfl sizeOf36 (by decide)
theorem pl38 : Places Tryz.prog 38 #[(0, 1), (1, 1), (2, 1), (3, 1), (4, 1)] := ⟨_, Tryz.underlying38, fun w => by simp [Tryz.sizeOf3, Tryz.sizeOf35, Tryz.sizeOf36]⟩
theorem fa41_0 : FaQ 41 0 0 := fun h => yFA h runUnderlying41 rfl rfl sizeOf38 (by decide)
theorem fa41_1 : FaQ 41 1 5 := fun h => yFA h runUnderlying41 rfl rfl sizeOf30 (by decide)
theorem fa41_2 : FaQ 41 2 6 := fun h => yFA h runUnderlying41 rfl rfl sizeOf39 (by decide)
theorem fa41_3 : FaQ 41 3 7 := fun h => yFA h runUnderlying41 rfl rfl sizeOf30 (by decide)
theorem fa41_4 : FaQ 41 4 8 := fun h => yFA h runUnderlying41 rfl rfl sizeOf3 (by decide)
theorem fa41_5 : FaQ 41 5 9 := fun h => yFA h runUnderlying41 rfl rfl sizeOf3 (by decide)
theorem fa41_6 : FaQ 41 6 10 := fun h => yFA h runUnderlying41 rfl rfl sizeOf3 (by decide)
theorem pl41 : Places Tryz.prog 41 #[(0, 5), (5, 1), (6, 1), (7, 1), (8, 1), (9, 1), (10, 1)] := ⟨_, Tryz.underlying41, fun w => by simp [Tryz.sizeOf3, Tryz.sizeOf30, Tryz.sizeOf38, Tryz.sizeOf39]⟩
theorem fa43_0 : FaQ 43 0 0 := fun h => yFA h runUnderlying43 rfl rfl sizeOf3 (by decide)
theorem fa43_1 : FaQ 43 1 1 := fun h => yFA h runUnderlying43 rfl rfl sizeOf3 (by decide)
theorem pl43 : Places Tryz.prog 43 #[(0, 1), (1, 1)] := ⟨_, Tryz.underlying43, fun w => by simp [Tryz.sizeOf3]⟩
theorem fa45_0 : FaQ 45 0 0 := fun h => yFA h runUnderlying45 rfl rfl sizeOf3 (by decide)
theorem fa45_1 : FaQ 45 1 1 := fun h => yFA h runUnderlying45 rfl rfl sizeOf3 (by decide)
theorem pl45 : Places Tryz.prog 45 #[(0, 1), (1, 1)] := ⟨_, Tryz.underlying45, fun w => by simp [Tryz.sizeOf3]⟩
theorem fa48_0 : FaQ 48 0 0 := fun h => yFA h runUnderlying48 rfl rfl sizeOf43 (by decide)
theorem fa48_1 : FaQ 48 1 2 := fun h => yFA h runUnderlying48 rfl rfl sizeOf45 (by decide)
theorem fa48_2 : FaQ 48 2 4 := fun h => yFA h runUnderlying48 rfl rfl sizeOf46 (by decide)
theorem fa57_0 : FaQ 57 0 0 := fun h => yFA h runUnderlying57 rfl rfl sizeOf45 (by decide)
theorem fa57_2 : FaQ 57 2 3 := fun h => yFA h runUnderlying57 rfl rfl sizeOf55 (by decide)
theorem pl57 : Places Tryz.prog 57 #[(0, 2), (2, 1), (3, 1)] := ⟨_, Tryz.underlying57, fun w => by simp [Tryz.sizeOf45, Tryz.sizeOf54, Tryz.sizeOf55]⟩
theorem fa69_0 : FaQ 69 0 0 := fun h => yFA h runUnderlying69 rfl rfl sizeOf3 (by decide)
theorem fa69_1 : FaQ 69 1 1 := fun h => yFA h runUnderlying69 rfl rfl sizeOf3 (by decide)
theorem pl69 : Places Tryz.prog 69 #[(0, 1), (1, 1)] := ⟨_, Tryz.underlying69, fun w => by simp [Tryz.sizeOf3]⟩
theorem fa91_0 : FaQ 91 0 0 := fun h => yFA h runUnderlying91 rfl rfl sizeOf89 (by decide)
theorem fa91_1 : FaQ 91 1 1 := fun h => yFA h runUnderlying91 rfl rfl sizeOf43 (by decide)
theorem pl91 : Places Tryz.prog 91 #[(0, 1), (1, 2)] := ⟨_, Tryz.underlying91, fun w => by simp [Tryz.sizeOf43, Tryz.sizeOf89]⟩
theorem pl93 : Places Tryz.prog 93 #[(0, 1), (1, 1)] := ⟨_, Tryz.underlying93, fun w => by simp [Tryz.sizeOf3]⟩
theorem fa108_0 : FaQ 108 0 0 := fun h => yFA h runUnderlying108 rfl rfl sizeOf41 (by decide)
theorem fa108_1 : FaQ 108 1 11 := fun h => yFA h runUnderlying108 rfl rfl sizeOf3 (by decide)
theorem fa108_2 : FaQ 108 2 12 := fun h => yFA h runUnderlying108 rfl rfl sizeOf3 (by decide)
theorem fa108_3 : FaQ 108 3 13 := fun h => yFA h runUnderlying108 rfl rfl sizeOf3 (by decide)
theorem fa108_4 : FaQ 108 4 14 := fun h => yFA h runUnderlying108 rfl rfl sizeOf106 (by decide)
theorem pl108 : Places Tryz.prog 108 #[(0, 11), (11, 1), (12, 1), (13, 1), (14, 1)] := ⟨_, Tryz.underlying108, fun w => by simp [Tryz.sizeOf3, Tryz.sizeOf41, Tryz.sizeOf106]⟩
theorem fa115_0 : FaQ 115 0 0 := fun h => yFA h runUnderlying115 rfl rfl sizeOf29 (by decide)
theorem fa115_1 : FaQ 115 1 12 := fun h => yFA h runUnderlying115 rfl rfl sizeOf3 (by decide)
theorem fa115_2 : FaQ 115 2 13 := fun h => yFA h runUnderlying115 rfl rfl sizeOf113 (by decide)
theorem fa115_3 : FaQ 115 3 14 := fun h => yFA h runUnderlying115 rfl rfl sizeOf30 (by decide)
theorem fa115_4 : FaQ 115 4 15 := fun h => yFA h runUnderlying115 rfl rfl sizeOf113 (by decide)
theorem pl115 : Places Tryz.prog 115 #[(0, 12), (12, 1), (13, 1), (14, 1), (15, 1)] := ⟨_, Tryz.underlying115, fun w => by simp [Tryz.sizeOf3, Tryz.sizeOf29, Tryz.sizeOf30, Tryz.sizeOf113]⟩
theorem fa118_0 : FaQ 118 0 0 := fun h => yFA h runUnderlying118 rfl rfl sizeOf9 (by decide)
theorem fa118_1 : FaQ 118 1 1 := fun h => yFA h runUnderlying118 rfl rfl sizeOf3 (by decide)
theorem fa118_2 : FaQ 118 2 2 := fun h => yFA h runUnderlying118 rfl rfl sizeOf3 (by decide)
theorem fa118_3 : FaQ 118 3 3 := fun h => yFA h runUnderlying118 rfl rfl sizeOf3 (by decide)
theorem fa121_0 : FaQ 121 0 0 := fun h => yFA h runUnderlying121 rfl rfl sizeOf3 (by decide)
theorem fa121_1 : FaQ 121 1 1 := fun h => yFA h runUnderlying121 rfl rfl sizeOf3 (by decide)
theorem fa121_2 : FaQ 121 2 2 := fun h => yFA h runUnderlying121 rfl rfl sizeOf3 (by decide)
theorem fa121_3 : FaQ 121 3 3 := fun h => yFA h runUnderlying121 rfl rfl sizeOf119 (by decide)
theorem fa127_2 : FaQ 127 2 3 := fun h => yFA h runUnderlying127 rfl rfl sizeOf32 (by decide)
theorem pl127 : Places Tryz.prog 127 #[(0, 1), (1, 2), (3, 2)] := ⟨_, Tryz.underlying127, fun w => by simp [Tryz.sizeOf30, Tryz.sizeOf32]⟩
theorem fa129_0 : FaQ 129 0 0 := fun h => yFA h runUnderlying129 rfl rfl sizeOf125 (by decide)
theorem fa129_1 : FaQ 129 1 4 := fun h => yFA h runUnderlying129 rfl rfl sizeOf127 (by decide)
theorem pl129 : Places Tryz.prog 129 #[(0, 4), (4, 5)] := ⟨_, Tryz.underlying129, fun w => by simp [Tryz.sizeOf125, Tryz.sizeOf127]⟩
theorem pl139 : Places Tryz.prog 139 #[(0, 1), (1, 1)] := ⟨_, Tryz.underlying139, fun w => by simp [Tryz.sizeOf3]⟩
theorem fa155_0 : FaQ 155 0 0 := fun h => yFA h runUnderlying155 rfl rfl sizeOf3 (by decide)
theorem fa155_1 : FaQ 155 1 1 := fun h => yFA h runUnderlying155 rfl rfl sizeOf3 (by decide)
theorem pl155 : Places Tryz.prog 155 #[(0, 1), (1, 1)] := ⟨_, Tryz.underlying155, fun w => by simp [Tryz.sizeOf3]⟩
theorem fa171_0 : FaQ 171 0 0 := fun h => yFA h runUnderlying171 rfl rfl sizeOf3 (by decide)
theorem fa171_1 : FaQ 171 1 1 := fun h => yFA h runUnderlying171 rfl rfl sizeOf3 (by decide)
theorem pl171 : Places Tryz.prog 171 #[(0, 1), (1, 1)] := ⟨_, Tryz.underlying171, fun w => by simp [Tryz.sizeOf3]⟩
theorem fa173_0 : FaQ 173 0 0 := fun h => yFA h runUnderlying173 rfl rfl sizeOf9 (by decide)
theorem fa173_1 : FaQ 173 1 1 := fun h => yFA h runUnderlying173 rfl rfl sizeOf3 (by decide)
theorem fa173_2 : FaQ 173 2 2 := fun h => yFA h runUnderlying173 rfl rfl sizeOf3 (by decide)
theorem fa173_3 : FaQ 173 3 3 := fun h => yFA h runUnderlying173 rfl rfl sizeOf3 (by decide)
theorem pl173 : Places Tryz.prog 173 #[(0, 1), (1, 1), (2, 1), (3, 1)] := ⟨_, Tryz.underlying173, fun w => by simp [Tryz.sizeOf3, Tryz.sizeOf9]⟩
theorem fa183_0 : FaQ 183 0 0 := fun h => yFA h runUnderlying183 rfl rfl sizeOf3 (by decide)
theorem fa183_1 : FaQ 183 1 1 := fun h => yFA h runUnderlying183 rfl rfl sizeOf30 (by decide)
theorem pl183 : Places Tryz.prog 183 #[(0, 1), (1, 1)] := ⟨_, Tryz.underlying183, fun w => by simp [Tryz.sizeOf3, Tryz.sizeOf30]⟩
theorem fa185_0 : FaQ 185 0 0 := fun h => yFA h runUnderlying185 rfl rfl sizeOf3 (by decide)
theorem fa185_1 : FaQ 185 1 1 := fun h => yFA h runUnderlying185 rfl rfl sizeOf3 (by decide)
theorem fa185_2 : FaQ 185 2 2 := fun h => yFA h runUnderlying185 rfl rfl sizeOf3 (by decide)
theorem fa185_3 : FaQ 185 3 3 := fun h => yFA h runUnderlying185 rfl rfl sizeOf3 (by decide)
theorem fa185_4 : FaQ 185 4 4 := fun h => yFA h runUnderlying185 rfl rfl sizeOf30 (by decide)
theorem pl185 : Places Tryz.prog 185 #[(0, 1), (1, 1), (2, 1), (3, 1), (4, 1)] := ⟨_, Tryz.underlying185, fun w => by simp [Tryz.sizeOf3, Tryz.sizeOf30]⟩
theorem fa189_0 : FaQ 189 0 0 := fun h => yFA h runUnderlying189 rfl rfl sizeOf3 (by decide)
theorem fa189_1 : FaQ 189 1 1 := fun h => yFA h runUnderlying189 rfl rfl sizeOf3 (by decide)
theorem fa189_2 : FaQ 189 2 2 := fun h => yFA h runUnderlying189 rfl rfl sizeOf3 (by decide)
theorem pl189 : Places Tryz.prog 189 #[(0, 1), (1, 1), (2, 1)] := ⟨_, Tryz.underlying189, fun w => by simp [Tryz.sizeOf3]⟩
theorem fa192_0 : FaQ 192 0 0 := fun h => yFA h runUnderlying192 rfl rfl sizeOf3 (by decide)
theorem fa192_1 : FaQ 192 1 1 := fun h => yFA h runUnderlying192 rfl rfl sizeOf3 (by decide)
theorem pl192 : Places Tryz.prog 192 #[(0, 1), (1, 1)] := ⟨_, Tryz.underlying192, fun w => by simp [Tryz.sizeOf3]⟩
theorem fa201_0 : FaQ 201 0 0 := fun h => yFA h runUnderlying201 rfl rfl sizeOf9 (by decide)
theorem fa201_1 : FaQ 201 1 1 := fun h => yFA h runUnderlying201 rfl rfl sizeOf3 (by decide)
theorem fa201_2 : FaQ 201 2 2 := fun h => yFA h runUnderlying201 rfl rfl sizeOf3 (by decide)
theorem fa201_3 : FaQ 201 3 3 := fun h => yFA h runUnderlying201 rfl rfl sizeOf198 (by decide)
theorem fa201_4 : FaQ 201 4 4 := fun h => yFA h runUnderlying201 rfl rfl sizeOf199 (by decide)
theorem fa212_0 : FaQ 212 0 0 := fun h => yFA h runUnderlying212 rfl rfl sizeOf52 (by decide)
theorem fa212_1 : FaQ 212 1 1 := fun h => yFA h runUnderlying212 rfl rfl sizeOf49 (by decide)
theorem pl212 : Places Tryz.prog 212 #[(0, 1), (1, 1)] := ⟨_, Tryz.underlying212, fun w => by simp [Tryz.sizeOf49, Tryz.sizeOf52]⟩
theorem fa214_0 : FaQ 214 0 0 := fun h => yFA h runUnderlying214 rfl rfl sizeOf9 (by decide)
theorem fa214_1 : FaQ 214 1 1 := fun h => yFA h runUnderlying214 rfl rfl sizeOf30 (by decide)
theorem fa214_2 : FaQ 214 2 2 := fun h => yFA h runUnderlying214 rfl rfl sizeOf3 (by decide)
theorem fa214_3 : FaQ 214 3 3 := fun h => yFA h runUnderlying214 rfl rfl sizeOf3 (by decide)
theorem fa214_4 : FaQ 214 4 4 := fun h => yFA h runUnderlying214 rfl rfl sizeOf3 (by decide)
theorem fa214_5 : FaQ 214 5 5 := fun h => yFA h runUnderlying214 rfl rfl sizeOf3 (by decide)
theorem fa219_0 : FaQ 219 0 0 := fun h => yFA h runUnderlying219 rfl rfl sizeOf69 (by decide)
theorem pl219 : Places Tryz.prog 219 #[(0, 2)] := ⟨_, Tryz.underlying219, fun w => by simp [Tryz.sizeOf69]⟩
theorem fa231_0 : FaQ 231 0 0 := fun h => yFA h runUnderlying231 rfl rfl sizeOf69 (by decide)
theorem fa231_1 : FaQ 231 1 2 := fun h => yFA h runUnderlying231 rfl rfl sizeOf3 (by decide)
theorem pl231 : Places Tryz.prog 231 #[(0, 2), (2, 1)] := ⟨_, Tryz.underlying231, fun w => by simp [Tryz.sizeOf3, Tryz.sizeOf69]⟩
theorem fa241_0 : FaQ 241 0 0 := fun h => yFA h runUnderlying241 rfl rfl sizeOf3 (by decide)
theorem fa241_1 : FaQ 241 1 1 := fun h => yFA h runUnderlying241 rfl rfl sizeOf69 (by decide)
theorem fa243_0 : FaQ 243 0 0 := fun h => yFA h runUnderlying243 rfl rfl sizeOf3 (by decide)
theorem fa243_1 : FaQ 243 1 1 := fun h => yFA h runUnderlying243 rfl rfl sizeOf3 (by decide)
theorem fa265_0 : FaQ 265 0 0 := fun h => yFA h runUnderlying265 rfl rfl sizeOf3 (by decide)
theorem fa265_1 : FaQ 265 1 1 := fun h => yFA h runUnderlying265 rfl rfl sizeOf3 (by decide)
theorem pl265 : Places Tryz.prog 265 #[(0, 1), (1, 1)] := ⟨_, Tryz.underlying265, fun w => by simp [Tryz.sizeOf3]⟩
theorem fa272_0 : FaQ 272 0 0 := fun h => yFA h runUnderlying272 rfl rfl sizeOf38 (by decide)
theorem fa272_1 : FaQ 272 1 5 := fun h => yFA h runUnderlying272 rfl rfl sizeOf183 (by decide)
theorem fa272_2 : FaQ 272 2 7 := fun h => yFA h runUnderlying272 rfl rfl sizeOf189 (by decide)
theorem fa272_3 : FaQ 272 3 10 := fun h => yFA h runUnderlying272 rfl rfl sizeOf185 (by decide)
theorem pl272 : Places Tryz.prog 272 #[(0, 5), (5, 2), (7, 3), (10, 5)] := ⟨_, Tryz.underlying272, fun w => by simp [Tryz.sizeOf38, Tryz.sizeOf183, Tryz.sizeOf185, Tryz.sizeOf189]⟩
theorem eqIn45 {a0 b0 : Int} {a1 b1 : Int} : (Op.equalIn 10000 45 (.agg #[.int .i64 a0, .int .i64 a1]) (.agg #[.int .i64 b0, .int .i64 b1])).run Tryz.prog w = .ok (decide (a0 = b0) && decide (a1 = b1)) w := by
 have u3 := Tryz.underlying3
 have z3 := Tryz.sizeOf3
 have g3 := Tryz.isAgg3
 rw [show (10000 : Nat) = 9999 + 1 from rfl, run_equalIn_agg w 9999 45 _ _ (by kernel_rfl) (by kernel_rfl)]
 simp only [Program.fieldsOf, Tryz.underlying45]
 go_simp
 by_cases h0 : a0 = b0 <;> by_cases h1 : a1 = b1 <;> simp [h0, h1]
theorem eqS45 {x y : Operand} {t : TypeId} {a0 b0 : Int} {a1 b1 : Int} (hx : ρ x = .agg #[.int .i64 a0, .int .i64 a1]) (hy : ρ y = .agg #[.int .i64 b0, .int .i64 b1]) : Y Tryz.prog ρ (.binOp .eql 45 x y t) ty w (.bool ((decide (a0 = b0) && decide (a1 = b1)))) w := by
 have hg := run_eqGuard_agg (P := Tryz.prog) w .eql 45 x y #[.int .i64 a0, .int .i64 a1] #[.int .i64 b0, .int .i64 b1] (by kernel_rfl)
 have he := run_eql_struct (P := Tryz.prog) w 45 #[.int .i64 a0, .int .i64 a1] #[.int .i64 b0, .int .i64 b1]
 rw [eqIn45] at he
 simp only [Result.andThen_ok] at he
 simp [Y, xop, execOp, hx, hy, hg, he]
theorem neS45 {x y : Operand} {t : TypeId} {a0 b0 : Int} {a1 b1 : Int} (hx : ρ x = .agg #[.int .i64 a0, .int .i64 a1]) (hy : ρ y = .agg #[.int .i64 b0, .int .i64 b1]) : Y Tryz.prog ρ (.binOp .neq 45 x y t) ty w (.bool (!(decide (a0 = b0) && decide (a1 = b1)))) w := by
 have hg := run_eqGuard_agg (P := Tryz.prog) w .neq 45 x y #[.int .i64 a0, .int .i64 a1] #[.int .i64 b0, .int .i64 b1] (by kernel_rfl)
 have he := run_neq_struct (P := Tryz.prog) w 45 #[.int .i64 a0, .int .i64 a1] #[.int .i64 b0, .int .i64 b1]
 rw [eqIn45] at he
 simp only [Result.andThen_ok] at he
 simp [Y, xop, execOp, hx, hy, hg, he]
theorem ti3 : Tryz.prog.info? 3 = some Tryz.t3 := by kernel_rfl
theorem ti4 : Tryz.prog.info? 4 = some Tryz.t4 := by kernel_rfl
theorem ti32 : Tryz.prog.info? 32 = some Tryz.t32 := by kernel_rfl
theorem ti69 : Tryz.prog.info? 69 = some Tryz.t69 := by kernel_rfl
theorem ti93 : Tryz.prog.info? 93 = some Tryz.t93 := by kernel_rfl
theorem ti129 : Tryz.prog.info? 129 = some Tryz.t129 := by kernel_rfl
theorem ti139 : Tryz.prog.info? 139 = some Tryz.t139 := by kernel_rfl
theorem ti219 : Tryz.prog.info? 219 = some Tryz.t219 := by kernel_rfl
theorem ti231 : Tryz.prog.info? 231 = some Tryz.t231 := by kernel_rfl
theorem ti265 : Tryz.prog.info? 265 = some Tryz.t265 := by kernel_rfl
end Go.Proofs.YtchbdfcbogjhcaaGreatDoor
