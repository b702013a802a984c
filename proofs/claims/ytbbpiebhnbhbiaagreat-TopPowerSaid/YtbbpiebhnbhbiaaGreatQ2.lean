/- Merged texts, part 2. -/
import Derived.Test.YtbbpiebhnbhbiaaGreatQ1
import Derived.Laws.StructEq
import Derived.Test.YtbbpiebhnbhbiaaGreatProg
import Derived.Lib.AppendZeros
import Derived.Shelf.SortM.SortNone
import Derived.Shelf.SortM.Plain
import Derived.Shelf.SlGeneric
import Derived.Ground.SlgmProg
set_option linter.all false
set_option maxHeartbeats 8000000
namespace Bx
open Go Go.RowKit
section
variable {P : Program} {ops : Array Oper} {Q : Exit → Act → World → Prop} {md : Region.Mode} {C : World → Prop} {R : Nat → World → World → Prop}
theorem getD_ff {l : Array Bool} {n : Nat} (h : l.getD n true = false) : l.getD n false = false := by
 rcases Nat.lt_or_ge n l.size with h' | h'
 ·
  simp [h'] at h ⊢; exact h
 ·
  simp [Array.getElem?_eq_none h'] at h
theorem wpAR_firstD {i : Nat} {oi : Oper} {v : Value} {X D : List Nat} (hR : ∀ i w, R i w w) (hRC : ∀ j w w', R j w w' → X.contains j = false → C w → C w') (hi : ops[i]? = some oi) (hsel : ∀ (j : Nat) (o : Oper) cs b, ops[j]? = some o → o.op ≠ .select cs b) (hQ : ∀ c a a' w, Q (.panic c) a w → Q (.panic c) a' w) :
    ∀ (fuel : Nat) (listed : Array Bool) (a : Act) (w : World), C w →
      (∀ j oj, ops[j]? = some oj → j ≠ i → listed.getD j true = false → (∀ e ∈ oj.after, Region.binds md e = true → e.on ≠ i) → oi.apart ops oj = true) →
      (∀ j ∈ X, listed.getD j true = true ∨ j ∈ D) → (∀ j ∈ D, listed.getD j true = false ∧ ∃ oj, ops[j]? = some oj ∧ ∃ e ∈ oj.after, Region.binds md e = true ∧ (e.on = i ∨ e.on ∈ D)) →
      i ∈ Region.ready md ops listed → Free P ops C oi v a →
      wpAR P md ops Q R fuel (listed.setIfInBounds i true) (a.put oi.dst v) w → wpAR P md ops Q R (fuel + 1) listed a w := by
  intro fuel
  induction fuel with
  | zero =>
    intro listed a w hC hfree hX hD hr hf H
    refine ⟨fun h => (by rw [h] at hr; cases hr), fun j hj => ?_⟩
    by_cases hji : j = i
    · subst hji; exact hf.op hi hC ⟨hR _ _, H⟩
    · have := ready_mono hj hji
      rw [H.1] at this
      cases this
  | succ fuel ih =>
    intro listed a w hC hfree hX hD hr hf H
    refine ⟨fun h => (by rw [h] at hr; cases hr), fun j hj => ?_⟩
    by_cases hji : j = i
    · subst hji; exact hf.op hi hC ⟨hR _ _, H⟩
    · have h1 := H.2 j (ready_mono hj hji)
      obtain ⟨hjun, oj, hoj, hall⟩ := mem_ready.1 hj
      have hifalse : listed.getD i false = false := getD_ff (mem_ready.1 hr).1
      have hnot : ∀ e ∈ oj.after, Region.binds md e = true → e.on ≠ i := fun e he hb heq => by
        have h0 := hall e he hb
        rw [heq, hifalse] at h0
        cases h0
      have hjD : j ∉ D := fun hd => by
        obtain ⟨-, oj', hoj', e, he, hb, hon⟩ := hD j hd
        rw [hoj] at hoj'
        obtain rfl := Option.some.inj hoj'
        rcases hon with hon | hon
        · exact hnot e he hb hon
        · have h0 := hall e he hb
          rw [getD_ff (hD _ hon).1] at h0
          cases h0
      have hjX : X.contains j = false := by
        cases hx : X.contains j with
        | false => rfl
        | true =>
          rcases hX j (by simpa using hx) with h | h
          · rw [hjun] at h; cases h
          · exact absurd h hjD
      have hap := hfree j oj hoj hji hjun hnot
      have hfree' : ∀ k ok, ops[k]? = some ok → k ≠ i → (listed.setIfInBounds j true).getD k true = false →
          (∀ e ∈ ok.after, Region.binds md e = true → e.on ≠ i) → oi.apart ops ok = true := fun k ok hk hki hun hno => by
        refine hfree k ok hk hki ?_ hno
        by_cases hjk : j = k
        · subst hjk; exact hjun
        · rw [getD_set_ne true hjk] at hun; exact hun
      have h2 := wpOp_frame hoj (wpOp_put hoj hap (fun cs b => hsel j oj cs b hoj) hQ h1)
      refine wpOp_mono ?_ h2
      rintro a' w' ⟨⟨u, ds, rfl⟩, h3, h4⟩
      refine ⟨h3, ih (listed.setIfInBounds j true) _ w' (hRC _ _ _ h3 hjX hC) hfree' (fun x hx => ?_) (fun d hd => ?_) (ready_mono hr (Ne.symm hji)) (hf.keep hap (fun cs b => hsel i oi cs b hi)) ?_⟩
      · by_cases hjx : j = x
        · subst hjx
          rcases hX j hx with h | h
          · rw [hjun] at h; cases h
          · exact .inr h
        · rw [getD_set_ne true hjx]; exact hX x hx
      · rw [getD_set_ne true (fun e => hjD (by rw [e]; exact hd))]; exact hD d hd
      · rw [Array.setIfInBounds_comm _ _ hji]
        exact h4
def clB (X1 X2 : List Nat) : Nat → List Nat
 | 0 => []
 | 1 => X1
 | _ => X2
def clX (C1 C2 : World → Prop) (X1 X2 : List Nat) (i : Nat) (w w' : World) : Prop := (X1.contains i = false → C1 w → C1 w') ∧ (X2.contains i = false → C2 w → C2 w')
def quB (ops : Array Oper) (X D : List Nat) (listed : Array Bool) (k : Nat) : Bool :=
 Region.noSelect ops && (Region.ready .any ops listed).contains k && Region.free .any ops listed k && (X.all fun j => listed.getD j true || D.contains j) &&
  D.all fun j => !listed.getD j true && match ops[j]? with | some o => o.after.any fun e => Region.binds .any e && (e.on == k || D.contains e.on) | none => false
variable {nf : Nat} {f : Fr} {w : World} {C1 C2 : World → Prop} {X1 X2 : List Nat}
/-- What is left of a statement: panics do not look at the values that were made. -/
def wpMA (P : Program) (ops : Array Oper) (Q : Exit → Act → World → Prop) (C1 C2 : World → Prop) (X1 X2 : List Nat) (fuel : Nat) (listed : Array Bool) (a : Act) (w : World) : Prop := (∀ c a a' w, Q (.panic c) a w → Q (.panic c) a' w) → wpAR P .any ops Q (clX C1 C2 X1 X2) fuel listed a w
def wpM (P : Program) (ops : Array Oper) (Q : Exit → Act → World → Prop) (C1 C2 : World → Prop) (X1 X2 : List Nat) (fuel : Nat) (listed : Array Bool) (nf : Nat) (f : Fr) (w : World) : Prop := wpMA P ops Q C1 C2 X1 X2 fuel listed (mk nf f) w
theorem mw {fuel : Nat} {listed : Array Bool} (h : wpM P ops Q C1 C2 X1 X2 fuel listed nf f w) : wpMA P ops Q C1 C2 X1 X2 fuel listed (mk nf f) w := h
/-- An operation that is quiet, of a class. -/
theorem mq {fuel : Nat} {listed : Array Bool} {d : Nat} {op : Op} {ty : TypeId} {pos : String} {af : Array Edge} {v : Value} (c k : Nat) (D : List Nat) (hB : quB ops (clB X1 X2 c) D listed k = true) (hi : ops[k]? = some ⟨some d, op, ty, pos, af, none⟩)
    (hC : clC C1 C2 c w) (hr : ∀ w, clC C1 C2 c w → Y P (ev nf f) op ty w v w) (h : wpM P ops Q C1 C2 X1 X2 fuel (listed.setIfInBounds k true) nf (upd f d v) w) : wpM P ops Q C1 C2 X1 X2 (fuel + 1) listed nf f w := by
  intro hQ
  simp only [quB, Bool.and_eq_true] at hB
  obtain ⟨⟨⟨⟨hs, hrd⟩, hfr⟩, hX⟩, hD⟩ := hB
  refine wpAR_firstD (C := clC C1 C2 c) (X := clB X1 X2 c) (D := D) (v := v) (fun i w => ⟨fun _ h => h, fun _ h => h⟩) ?_ hi (Region.noSelect_spec hs) hQ fuel listed (mk nf f) w hC (Region.free_spec hi hfr) (fun j hj => ?_) (fun j hj => ?_) (by simpa using hrd) (.inl ⟨by simp [Region.wanted], fun w hC => by rw [mk_eval, execOp_xop, hr w hC]⟩) ?_
  · intro j w w' h1 h2 h3
    match c with
    | 0 => trivial
    | 1 => exact h1.1 h2 h3
    | _ + 2 => exact h1.2 h2 h3
  · have := List.all_eq_true.1 hX j hj
    simp only [Bool.or_eq_true] at this
    exact this.imp id (fun h => by simpa using h)
  · have h0 := List.all_eq_true.1 hD j hj
    simp only [Bool.and_eq_true, Bool.not_eq_true'] at h0
    refine ⟨h0.1, ?_⟩
    cases ho : ops[j]? with
    | none => rw [ho] at h0; cases h0.2
    | some o =>
      rw [ho] at h0
      obtain ⟨e, he, h1⟩ := Array.any_eq_true'.1 h0.2
      simp only [Bool.and_eq_true, Bool.or_eq_true, beq_iff_eq] at h1
      exact ⟨o, rfl, e, he, h1.1, h1.2.imp id (fun h => by simpa using h)⟩
  · have h := h hQ
    show wpAR P .any ops Q (clX C1 C2 X1 X2) fuel (listed.setIfInBounds k true) ((mk nf f).put (some d) v) w
    rw [mk_put]
    exact h
theorem ms {fuel : Nat} {listed : Array Bool} {i : Nat} {is : List Nat} (hr : Region.ready .any ops listed = i :: is)
    (h : AllOf (i :: is) fun i => ∃ o, ops[i]? = some o ∧ wpL P ops (Exit.then (fun a' w' => ((X1.contains i = false → C1 w → C1 w') ∧ (X2.contains i = false → C2 w → C2 w')) ∧ wpMA P ops Q C1 C2 X1 X2 fuel (listed.setIfInBounds i true) a' w') Q) nf [o] f w) : wpM P ops Q C1 C2 X1 X2 (fuel + 1) listed nf f w := by
  intro hQ
  refine ⟨fun h0 => (by rw [hr] at h0; cases h0), fun j hj => ?_⟩
  rw [hr] at hj
  obtain ⟨o, ho, hw⟩ := h.spec j hj
  have hK : ∀ (a' : Act) (w' : World), (((X1.contains j = false → C1 w → C1 w') ∧ (X2.contains j = false → C2 w → C2 w')) ∧ wpMA P ops Q C1 C2 X1 X2 fuel (listed.setIfInBounds j true) a' w') →
      (((X1.contains j = false → C1 w → C1 w') ∧ (X2.contains j = false → C2 w → C2 w')) ∧ wpAR P .any ops Q (clX C1 C2 X1 X2) fuel (listed.setIfInBounds j true) a' w') := fun a' w' h => ⟨h.1, h.2 hQ⟩
  unfold wpOp
  simp only [ho]
  unfold wpL at hw
  unfold wpList at hw
  split
  · rename_i hwd
    rw [if_pos hwd] at hw
    rcases hw with hw | ⟨h1, h2⟩
    · left
      unfold Oper.wp at hw ⊢
      generalize (execOp (mk nf f).eval o).run P w = r at hw ⊢
      cases r with
      | ok x w' =>
        cases x <;> simp only [Oper.upon] at hw ⊢ <;> first
          | exact hw
          | exact hK _ _ hw
          | (refine Calls.mono hw ?_
             intro e w'' he
             cases e <;> first
               | exact he
               | exact hK _ _ he)
          | exact hw.mono fun v w'' hv => hK _ _ hv
      | halt x w' => cases x <;> exact hw
    · exact .inr ⟨h1, h2⟩
  · rename_i hwd
    rw [if_neg hwd] at hw
    exact hK _ _ hw
/-- Just one operation is ready. -/
theorem m1 {fuel : Nat} {listed : Array Bool} (i : Nat) {o : Oper} (hr : Region.ready .any ops listed = [i]) (ho : ops[i]? = some o)
    (h : wpL P ops (Exit.then (fun a' w' => ((X1.contains i = false → C1 w → C1 w') ∧ (X2.contains i = false → C2 w → C2 w')) ∧ wpMA P ops Q C1 C2 X1 X2 fuel (listed.setIfInBounds i true) a' w') Q) nf [o] f w) : wpM P ops Q C1 C2 X1 X2 (fuel + 1) listed nf f w :=
  ms hr ⟨⟨o, ho, h⟩, trivial⟩
theorem me {fuel : Nat} {listed : Array Bool} (hr : Region.ready .any ops listed = []) (h : Q .normal (mk nf f) w) : wpM P ops Q C1 C2 X1 X2 fuel listed nf f w := by
 intro hQ
 cases fuel with
 | zero => exact ⟨hr, h⟩
 | succ n => exact ⟨fun _ => h, fun i hi => by rw [hr] at hi; cases hi⟩
theorem region_m {S : List Nat} {w0 : World} {L : List Item} {id : Nat} {l : List Oper} (C1 C2 : World → Prop) (X1 X2 : List Nat) (hm : P.follows .mixedOrders = true) (hQ : ∀ c a a' w, Q (.panic c) a w → Q (.panic c) a' w) (hS : StX S w0 w L)
    (h : ∀ w, StX S w0 w L → wpM P l.toArray Q C1 C2 X1 X2 l.length (Array.replicate l.length false) nf f w) : (Code.region id l.toArray true).wp P Q (mk nf f) w := by
  refine wp_region_any hm (wpAny_of_AR (R := clX C1 C2 X1 X2) _ _ _ _ ?_)
  have h1 := h _ (hS.step (ext_drew w)) hQ
  simpa using h1
end
/-- The byte at i may stand there in a name. -/
def okAt (s : ByteArray) (i : Nat) : Prop := ∀ h : i < s.size, (97 ≤ s[i].toNat ∧ s[i].toNat ≤ 122) ∨ (0 < i ∧ (s[i].toNat = 45 ∨ 48 ≤ s[i].toNat ∧ s[i].toNat ≤ 57))
instance (s : ByteArray) (i : Nat) : Decidable (okAt s i) := by unfold okAt; infer_instance
def isName (s : ByteArray) : Bool := decide (1 ≤ s.size ∧ s.size ≤ 24 ∧ ∀ i, i < s.size → okAt s i)
theorem okAt_of (s : ByteArray) (i : Nat) (h : i < s.size) : okAt s i ↔ (97 ≤ s[i].toNat ∧ s[i].toNat ≤ 122) ∨ (0 < i ∧ (s[i].toNat = 45 ∨ 48 ≤ s[i].toNat ∧ s[i].toNat ≤ 57)) := ⟨fun k => k h, fun k _ => k⟩
theorem isName_bad (s : ByteArray) (k : Nat) (h : k < s.size) (hb : ¬ okAt s k) : isName s = false := by
 unfold isName
 rw [decide_eq_false_iff_not]
 exact fun ⟨_, _, h3⟩ => hb (h3 k h)
theorem isName_end (s : ByteArray) (h : ∀ i, i < s.size → okAt s i) : isName s = (decide (s ≠ ⟨#[]⟩) && decide ((s.size : Int) ≤ 24)) := by
 have e : s ≠ ⟨#[]⟩ ↔ 1 ≤ s.size := by
  constructor
  ·
   intro hn
   rcases Nat.eq_zero_or_pos s.size with h0 | h0
   ·
    exact absurd (ByteArray.ext (Array.eq_empty_of_size_eq_zero h0)) hn
   ·
    exact h0
  ·
   rintro h1 rfl
   exact absurd h1 (by decide)
 unfold isName
 rw [Bool.eq_iff_iff]
 simp only [decide_eq_true_eq, Bool.and_eq_true, e]
 constructor
 ·
  rintro ⟨h1, h2, _⟩
  exact ⟨h1, by omega⟩
 ·
  rintro ⟨h1, h2⟩
  exact ⟨h1, by omega, h⟩
structure Const where
 name : ByteArray
 heights : List Int
 off : Int
 step : Int
 den : Int
 slack : Int
structure Table where
 mean : Int
 consts : List Const
def RConst (w : World) (cs : List Value) (c : Const) : Prop := ∃ hv, cs = [.string c.name, hv, .int .i64 c.off, .int .i64 c.step, .int .i64 c.den, .int .i64 c.slack] ∧ c.name.size ≤ 9223372036854775807 ∧ Sl w 1 RInt hv c.heights ∧ I64 c.off ∧ I64 c.step ∧ I64 c.den ∧ I64 c.slack
theorem RConst.stays : Stays RConst := fun _ _ _ _ e ⟨hv, h1, h2, h3, h4⟩ => ⟨hv, h1, h2, h3.ext RInt.stays e, h4⟩
def RTable (w : World) (cs : List Value) (t : Table) : Prop := ∃ cv, cs = [.int .i64 t.mean, cv] ∧ I64 t.mean ∧ Sl w 6 RConst cv t.consts
theorem RTable.stays : Stays RTable := fun _ _ _ _ e ⟨cv, h1, h2, h3⟩ => ⟨cv, h1, h2, h3.ext RConst.stays e⟩
theorem RTable.ext {w w' : World} {cs : List Value} {t : Table} (h : RTable w cs t) (e : Ext w w') : RTable w' cs t := RTable.stays _ _ _ _ e h
structure ConstOk (c : Const) : Prop where
 den : Bd c.den 1 1000
 step : Bd c.step 1 100000
 slack : Bd c.slack 0 1000
 len : 2 ≤ c.heights.length ∧ c.heights.length ≤ 48
 off : Bd c.off 0 (c.den * c.heights.length - 1)
 heights : ∀ h ∈ c.heights, Bd h (-10000) 10000
structure TableOk (t : Table) : Prop where
 mean : Bd t.mean (-20000) 20000
 len : t.consts.length ≤ 12
 consts : ∀ c ∈ t.consts, ConstOk c
def Room (n bytes : Nat) : Prop := n * bytes ≤ 140737488351232
def RoomW (n bytes : Nat) : Prop := n * bytes ≤ 140737488353280
structure Spn where
 fr : Int
 un : Int
structure Opr where
 name : ByteArray
 grade : Int
 duty : List Spn
structure Knd where
 name : ByteArray
 grade : Int
 second : Int
 within : Int
 keys : List Int
 split : Bool
structure Crew where
 ops : List Opr
 keys : List ByteArray
 kinds : List Knd
def spnC (s : Spn) : List Value := [.int .i64 s.fr, .int .i64 s.un]
def RSpn (_ : World) (cs : List Value) (s : Spn) : Prop := cs = spnC s ∧ I64 s.fr ∧ I64 s.un
theorem RSpn.stays : Stays RSpn := fun _ _ _ _ _ h => h
def RNam (_ : World) (cs : List Value) (s : ByteArray) : Prop := cs = [.string s] ∧ s.size ≤ 9223372036854775807
theorem RNam.stays : Stays RNam := fun _ _ _ _ _ h => h
def ROpr (w : World) (cs : List Value) (o : Opr) : Prop := ∃ dv, cs = [.string o.name, .int .i64 o.grade, dv] ∧ o.name.size ≤ 9223372036854775807 ∧ I64 o.grade ∧ Sl w 2 RSpn dv o.duty ∧ RoomW o.duty.length 16
theorem ROpr.stays : Stays ROpr := fun _ _ _ _ e ⟨dv, h1, h2, h3, h4, h5⟩ => ⟨dv, h1, h2, h3, h4.ext RSpn.stays e, h5⟩
def RKnd (w : World) (cs : List Value) (k : Knd) : Prop := ∃ kv, cs = [.string k.name, .int .i64 k.grade, .int .i64 k.second, .int .i64 k.within, kv, .bool k.split] ∧ k.name.size ≤ 9223372036854775807 ∧ I64 k.grade ∧ I64 k.second ∧ I64 k.within ∧ Sl w 1 RInt kv k.keys ∧ Room k.keys.length 8
theorem RKnd.stays : Stays RKnd := fun _ _ _ _ e ⟨kv, h1, h2, h3, h4, h5, h6, h7⟩ => ⟨kv, h1, h2, h3, h4, h5, h6.ext RInt.stays e, h7⟩
def RCrew (w : World) (cs : List Value) (c : Crew) : Prop := ∃ ov kv nv, cs = [ov, kv, nv] ∧ Sl w 3 ROpr ov c.ops ∧ Sl w 1 RNam kv c.keys ∧ Sl w 6 RKnd nv c.kinds ∧ Room c.ops.length 48
theorem RCrew.stays : Stays RCrew := fun _ _ _ _ e ⟨ov, kv, nv, h1, h2, h3, h4, h5⟩ => ⟨ov, kv, nv, h1, h2.ext ROpr.stays e, h3.ext RNam.stays e, h4.ext RKnd.stays e, h5⟩
theorem RCrew.ext {w w' : World} {cs : List Value} {c : Crew} (h : RCrew w cs c) (e : Ext w w') : RCrew w' cs c := RCrew.stays _ _ _ _ e h
theorem ROpr.ext {w w' : World} {cs : List Value} {c : Opr} (h : ROpr w cs c) (e : Ext w w') : ROpr w' cs c := ROpr.stays _ _ _ _ e h
theorem RKnd.ext {w w' : World} {cs : List Value} {c : Knd} (h : RKnd w cs c) (e : Ext w w') : RKnd w' cs c := RKnd.stays _ _ _ _ e h
def compR : Int → List Int → List Int
 | _, [] => []
 | a, b :: l => if b = a then compR a l else b :: compR b l
def compL : List Int → List Int
 | [] => []
 | a :: l => a :: compR a l
theorem compR_le : ∀ (a : Int) (l : List Int), (compR a l).length ≤ l.length
  | _, [] => Nat.le_refl _
  | a, b :: l => by
    unfold compR
    split
    · have := compR_le a l; simp only [List.length_cons]; omega
    · have := compR_le b l; simp only [List.length_cons]; omega
theorem compR_full : ∀ (a : Int) (l : List Int), (a :: l).Pairwise (· ≤ ·) → ((compR a l).length < l.length ↔ ¬ (a :: l).Nodup)
  | a, [], _ => by simp [compR]
  | a, b :: l, hp => by
    have hab := (List.pairwise_cons.1 hp).1 b (List.mem_cons_self ..)
    have hb := (List.pairwise_cons.1 hp).2
    unfold compR
    by_cases h : b = a
    · subst h
      rw [if_pos rfl]
      have := compR_le b l
      constructor
      · intro _ hn; exact (List.nodup_cons.1 hn).1 (List.mem_cons_self ..)
      · intro _; simp only [List.length_cons]; omega
    · rw [if_neg h]
      have ih := compR_full b l hb
      simp only [List.length_cons]
      have hna : a ∉ b :: l := by
        intro hm
        rcases List.mem_cons.1 hm with e | hm
        · exact h e.symm
        · have := (List.pairwise_cons.1 hb).1 a hm
          omega
      rw [List.nodup_cons]
      constructor
      · rintro hlt ⟨_, hn⟩; exact ih.1 (by omega) hn
      · intro hn
        have : ¬ (b :: l).Nodup := fun k => hn ⟨hna, k⟩
        have := ih.2 this
        omega
theorem compL_full {l : List Int} (h : l.Pairwise (· ≤ ·)) : (compL l).length < l.length ↔ ¬ l.Nodup := by
 cases l with
 | nil => simp [compL]
 | cons a l => simp only [compL, List.length_cons]; rw [← compR_full a l h]; omega
abbrev sortI (l : List Int) : List Int := l.mergeSort fun x y => decide (x ≤ y)
theorem sortI_asc (l : List Int) : (sortI l).Pairwise (· ≤ ·) := by
 have h := List.pairwise_mergeSort (le := fun x y : Int => decide (x ≤ y)) (fun a b c h1 h2 => by simp only [decide_eq_true_eq] at *; omega) (fun a b => by simp only [Bool.or_eq_true, decide_eq_true_eq]; omega) l
 exact h.imp fun hh => by simpa using hh
theorem sortI_perm (l : List Int) : (sortI l).Perm l := List.mergeSort_perm _ _
theorem comp_sort (l : List Int) : (compL (sortI l)).length < l.length ↔ ¬ l.Nodup := by
 rw [← (sortI_perm l).length_eq, compL_full (sortI_asc l), (sortI_perm l).nodup_iff]
theorem flatI (l : List Int) : l.flatMap encI = l.map (Value.int .i64) := by
 induction l with
 | nil => rfl
 | cons x l ih => rw [List.flatMap_cons, List.map_cons, ih]; rfl
theorem gap_outI {ks js l : List Int} {j : Nat} {x : Int} (hx : l[j]? = some x) (hne : js ≠ []) : ((ks ++ [x]) ++ (js.tail ++ [x]) ++ l.drop (j + 1)).flatMap encI = splice ((ks ++ js ++ l.drop j).flatMap encI) (ks.length * 1) [.int .i64 x] := by
 obtain ⟨y, js, rfl⟩ := List.exists_cons_of_ne_nil hne
 have hd : l.drop j = x :: l.drop (j + 1) := by
  obtain ⟨h, rfl⟩ := List.getElem?_eq_some_iff.1 hx
  exact List.drop_eq_getElem_cons h
 rw [flatI, flatI, Nat.mul_one, hd]
 unfold splice
 simp only [List.map_append, List.map_cons, List.map_nil, List.tail_cons, List.append_assoc, List.cons_append, List.nil_append, List.length_singleton]
 have e1 : (ks.map (Value.int .i64)).length = ks.length := by simp
 rw [List.take_append, List.take_of_length_le (by simp), List.length_map, Nat.sub_self, List.take_zero, List.append_nil]
 have e2 := drop_mid (ks.map (Value.int .i64)) (.int .i64 y) (js.map (Value.int .i64) ++ Value.int .i64 x :: (l.drop (j + 1)).map (Value.int .i64)) ks.length 0 e1
 rw [Nat.add_zero, List.drop_zero] at e2
 rw [e2]
theorem take_flatI (ks r : List Int) : ((ks ++ r).flatMap encI).take (ks.length * 1) = ks.flatMap encI := by
 rw [flatI, flatI, Nat.mul_one, List.map_append, List.take_append, List.take_of_length_le (by simp), List.length_map, Nat.sub_self, List.take_zero, List.append_nil]
theorem compL_one {l : List Int} (h : 0 < l.length) : compL l = l.take 1 ++ compR (l.getD (1 - 1) 0) (l.drop 1) := by
 cases l with
 | nil => cases h
 | cons a l => simp [compL]
theorem compL_short {l : List Int} (h : (l.length : Int) < 2) : compL l = l := by
 match l with
 | [] => rfl
 | [a] => rfl
 | a :: b :: l => simp at h; omega
theorem mid_last {ks js l : List Int} {j : Nat} (hl : ks.length + js.length = j) (hne : js ≠ []) (h : (ks ++ js)[j - 1]? = l[j - 1]?) : (ks ++ js ++ l.drop j)[j - 1]? = l[j - 1]? := by
 have := List.length_pos_iff.2 hne
 rw [List.getElem?_append_left (by simp; omega), h]
theorem last_in {ks js l : List Int} {j : Nat} {x : Int} (hx : l[j]? = some x) (hl : ks.length + js.length = j) : (ks ++ (js ++ [x]))[j + 1 - 1]? = l[j + 1 - 1]? := by
 rw [← List.append_assoc, List.getElem?_append_right (by simp; omega), Nat.add_sub_cancel, hx]
 simp [hl]
theorem last_out {ks js l : List Int} {j : Nat} {x : Int} (hx : l[j]? = some x) (hl : ks.length + js.length = j) (hne : js ≠ []) : ((ks ++ [x]) ++ (js.tail ++ [x]))[j + 1 - 1]? = l[j + 1 - 1]? := by
 have := List.length_pos_iff.2 hne
 rw [← List.append_assoc, List.getElem?_append_right (by simp; omega), Nat.add_sub_cancel, hx]
 simp only [List.length_append, List.length_singleton, List.length_tail]
 rw [show j - (ks.length + 1 + (js.length - 1)) = 0 by omega]
 rfl
theorem getD_of {l : List Int} {i : Nat} {x : Int} (h : l[i]? = some x) : l.getD i 0 = x := getD_hit h
end Bx
namespace Go.Proofs.YtbbpiebhnbhbiaaGreat
open Go Bx Go.Proofs.Tryz
variable {ρ : Operand → Value} {w : World} {ty : TypeId}
theorem mixed : Tryz.prog.follows .mixedOrders = true := by kernel_rfl
abbrev FaQ (T i d : Nat) : Prop := ∀ {ρ : Operand → Value} {w : World} {ty : TypeId} {x : Operand} {b o : Nat}, ρ x = .pointer (some ⟨b, o, none⟩) → Y Tryz.prog ρ (.fieldAddr T x i) ty w (.pointer (some ⟨b, o + d, none⟩)) w
theorem fa24_0 : FaQ 24 0 0 := fun h => yFA h runUnderlying24 rfl rfl sizeOf22 (by decide)
theorem pl24 : Places Tryz.prog 24 #[(0, 1)] := ⟨_, Tryz.underlying24, fun w => by simp [Tryz.sizeOf22]⟩
theorem fa29_0 : FaQ 29 0 0 := fun h => yFA h runUnderlying29 rfl rfl sizeOf9 (by decide)
theorem fa29_1 : FaQ 29 1 1 := fun h => yFA h runUnderlying29 rfl rfl sizeOf3 (by decide)
theorem fa29_2 : FaQ 29 2 2 := fun h => yFA h runUnderlying29 rfl rfl sizeOf3 (by decide)
theorem fa29_3 : FaQ 29 3 3 := fun h => yFA h runUnderlying29 rfl rfl sizeOf26 (by decide)
theorem fa29_4 : FaQ 29 4 4 := fun h => yFA h runUnderlying29 rfl rfl sizeOf3 (by decide)
theorem fa29_5 : FaQ 29 5 5 := fun h => yFA h runUnderlying29 rfl rfl sizeOf3 (by decide)
theorem fa29_6 : FaQ 29 6 6 := fun h => yFA h runUnderlying29 rfl rfl sizeOf3 (by decide)
theorem fa29_7 : FaQ 29 7 7 := fun h => yFA h runUnderlying29 rfl rfl sizeOf3 (by decide)
theorem fa29_8 : FaQ 29 8 8 := fun h => yFA h runUnderlying29 rfl rfl sizeOf3 (by decide)
theorem fa29_9 : FaQ 29 9 9 := fun h => yFA h runUnderlying29 rfl rfl sizeOf3 (by decide)
theorem fa29_10 : FaQ 29 10 10 := fun h => yFA h runUnderlying29 rfl rfl sizeOf3 (by decide)
theorem fa29_11 : FaQ 29 11 11 := fun h => yFA h runUnderlying29 rfl rfl sizeOf3 (by decide)
theorem fa29_12 : FaQ 29 12 12 := fun h => yFA h runUnderlying29 rfl rfl sizeOf3 (by decide)
theorem fa29_13 : FaQ 29 13 13 := fun h => yFA h runUnderlying29 rfl rfl sizeOf3 (by decide)
theorem fa29_14 : FaQ 29 14 14 := fun h => yFA h runUnderlying29 rfl rfl sizeOf3 (by decide)
theorem fa29_15 : FaQ 29 15 15 := fun h => yFA h runUnderlying29 rfl rfl sizeOf3 (by decide)
theorem fa29_16 : FaQ 29 16 16 := fun h => yFA h runUnderlying29 rfl rfl sizeOf3 (by decide)
theorem fa29_17 : FaQ 29 17 17 := fun h => yFA h runUnderlying29 rfl rfl sizeOf3 (by decide)
theorem fa29_18 : FaQ 29 18 18 := fun h => yFA h runUnderlying29 rfl rfl sizeOf3 (by decide)
theorem fa29_19 : FaQ 29 19 19 := fun h => yFA h runUnderlying29 rfl rfl sizeOf27 (by decide)
theorem fa29_20 : FaQ 29 20 20 := fun h => yFA h runUnderlying29 rfl rfl sizeOf3 (by decide)
theorem fa31_0 : FaQ 31 0 0 := fun h => yFA h runUnderlying31 rfl rfl sizeOf3 (by decide)
theorem fa31_1 : FaQ 31 1 1 := fun h => yFA h runUnderlying31 rfl rfl sizeOf3 (by decide)
theorem fa31_2 : FaQ 31 2 2 := fun h => yFA h runUnderlying31 rfl rfl sizeOf4 (by decide)
theorem fa33_0 : FaQ 33 0 0 := fun h => yFA h runUnderlying33 rfl rfl sizeOf24 (by decide)
theorem fa33_1 : FaQ 33 1 1 := fun h => yFA h runUnderlying33 rfl rfl sizeOf25 (by decide)
theorem fa33_2 : FaQ 33 2 2 := fun h => yFA h runUnderlying33 rfl rfl sizeOf3 (by decide)
theorem fa33_3 : FaQ 33 3 3 := fun h => yFA h runUnderlying33 rfl rfl sizeOf26 (by decide)
theorem fa33_4 : FaQ 33 4 4 := fun h => yFA h runUnderlying33 rfl rfl sizeOf29 (by decide)
theorem fa33_5 : FaQ 33 5 25 := fun h => yFA h runUnderlying33 rfl rfl sizeOf31 (by decide)
theorem fa33_6 : FaQ 33 6 28 := fun h => yFA h runUnderlying33 rfl rfl sizeOf3 (by decide)
theorem fa33_7 : FaQ 33 7 29 := fun h => yFA h runUnderlying33 rfl rfl sizeOf3 (by decide)
theorem fa35_0 : FaQ 35 0 0 := fun h => yFA h runUnderlying35 rfl rfl sizeOf3 (by decide)
theorem fa35_1 : FaQ 35 1 1 := fun h => yFA h runUnderlying35 rfl rfl sizeOf3 (by decide)
theorem fa35_2 : FaQ 35 2 2 := fun h => yFA h runUnderlying35 rfl rfl sizeOf3 (by decide)
theorem pl35 : Places Tryz.prog 35 #[(0, 1), (1, 1), (2, 1)] := ⟨_, Tryz.underlying35, fun w => by simp [Tryz.sizeOf3]⟩
theorem fa45_0 : FaQ 45 0 0 := fun h => yFA h runUnderlying45 rfl rfl sizeOf3 (by decide)
theorem fa45_1 : FaQ 45 1 1 := fun h => yFA h runUnderlying45 rfl rfl sizeOf4 (by decide)
theorem fa45_2 : FaQ 45 2 2 := fun h => yFA h runUnderlying45 rfl rfl sizeOf3 (by decide)
theorem fa45_3 : FaQ 45 3 3 := fun h => yFA h runUnderlying45 rfl rfl sizeOf3 (by decide)
theorem pl45 : Places Tryz.prog 45 #[(0, 1), (1, 1), (2, 1), (3, 1)] := ⟨_, Tryz.underlying45, fun w => by simp [Tryz.sizeOf3, Tryz.sizeOf4]⟩
theorem fa65_0 : FaQ 65 0 0 := fun h => yFA h runUnderlying65 rfl rfl sizeOf22 (by decide)
theorem fa65_1 : FaQ 65 1 1 := fun h => yFA h runUnderlying65 rfl rfl sizeOf62 (by decide)
theorem fa65_2 : FaQ 65 2 2 := fun h => yFA h runUnderlying65 rfl rfl sizeOf57 (by decide)
theorem fa65_3 : FaQ 65 3 3 := fun h => yFA h runUnderlying65 rfl rfl sizeOf63 (by decide)
theorem pl65 : Places Tryz.prog 65 #[(0, 1), (1, 1), (2, 1), (3, 1)] := ⟨_, Tryz.underlying65, fun w => by simp [Tryz.sizeOf22, Tryz.sizeOf57, Tryz.sizeOf62, Tryz.sizeOf63]⟩
theorem pl84 : Places Tryz.prog 84 #[(0, 1), (1, 1), (2, 1)] := ⟨_, Tryz.underlying84, fun w => by simp [Tryz.sizeOf3, Tryz.sizeOf36]⟩
theorem fa96_0 : FaQ 96 0 0 := fun h => yFA h runUnderlying96 rfl rfl sizeOf9 (by decide)
theorem fa96_1 : FaQ 96 1 1 := fun h => yFA h runUnderlying96 rfl rfl sizeOf3 (by decide)
theorem fa96_2 : FaQ 96 2 2 := fun h => yFA h runUnderlying96 rfl rfl sizeOf26 (by decide)
theorem fa96_3 : FaQ 96 3 3 := fun h => yFA h runUnderlying96 rfl rfl sizeOf3 (by decide)
theorem fa96_4 : FaQ 96 4 4 := fun h => yFA h runUnderlying96 rfl rfl sizeOf3 (by decide)
theorem pl96 : Places Tryz.prog 96 #[(0, 1), (1, 1), (2, 1), (3, 1), (4, 1)] := ⟨_, Tryz.underlying96, fun w => by simp [Tryz.sizeOf3, Tryz.sizeOf9, Tryz.sizeOf26]⟩
theorem fa100_0 : FaQ 100 0 0 := fun h => yFA h runUnderlying100 rfl rfl sizeOf3 (by decide)
theorem fa100_1 : FaQ 100 1 1 := fun h => yFA h runUnderlying100 rfl rfl sizeOf3 (by decide)
theorem pl100 : Places Tryz.prog 100 #[(0, 1), (1, 1)] := ⟨_, Tryz.underlying100, fun w => by simp [Tryz.sizeOf3]⟩
theorem fa117_0 : FaQ 117 0 0 := fun h => yFA h runUnderlying117 rfl rfl sizeOf42 (by decide)
theorem fa117_1 : FaQ 117 1 1 := fun h => yFA h runUnderlying117 rfl rfl sizeOf36 (by decide)
theorem pl117 : Places Tryz.prog 117 #[(0, 1), (1, 1)] := ⟨_, Tryz.underlying117, fun w => by simp [Tryz.sizeOf36, Tryz.sizeOf42]⟩
theorem fa121_0 : FaQ 121 0 0 := fun h => yFA h runUnderlying121 rfl rfl sizeOf3 (by decide)
theorem fa121_1 : FaQ 121 1 1 := fun h => yFA h runUnderlying121 rfl rfl sizeOf3 (by decide)
theorem fa121_2 : FaQ 121 2 2 := fun h => yFA h runUnderlying121 rfl rfl sizeOf3 (by decide)
theorem fa125_0 : FaQ 125 0 0 := fun h => yFA h runUnderlying125 rfl rfl sizeOf29 (by decide)
theorem fa125_1 : FaQ 125 1 21 := fun h => yFA h runUnderlying125 rfl rfl sizeOf31 (by decide)
theorem fa125_2 : FaQ 125 2 24 := fun h => yFA h runUnderlying125 rfl rfl sizeOf45 (by decide)
theorem fa125_3 : FaQ 125 3 28 := fun h => yFA h runUnderlying125 rfl rfl sizeOf3 (by decide)
theorem fa125_4 : FaQ 125 4 29 := fun h => yFA h runUnderlying125 rfl rfl sizeOf3 (by decide)
theorem fa125_5 : FaQ 125 5 30 := fun h => yFA h runUnderlying125 rfl rfl sizeOf3 (by decide)
theorem pl125 : Places Tryz.prog 125 #[(0, 21), (21, 3), (24, 4), (28, 1), (29, 1), (30, 1)] := ⟨_, Tryz.underlying125, fun w => by simp [Tryz.sizeOf3, Tryz.sizeOf29, Tryz.sizeOf31, Tryz.sizeOf45]⟩
theorem eqIn31 {a0 b0 : Int} {a1 b1 : Int} {a2 b2 : Bool} : (Op.equalIn 10000 31 (.agg #[.int .i64 a0, .int .i64 a1, .bool a2]) (.agg #[.int .i64 b0, .int .i64 b1, .bool b2])).run Tryz.prog w = .ok (decide (a0 = b0) && decide (a1 = b1) && decide (a2 = b2)) w := by
 have u3 := Tryz.underlying3
 have z3 := Tryz.sizeOf3
 have g3 := Tryz.isAgg3
 have u4 := Tryz.underlying4
 have z4 := Tryz.sizeOf4
 have g4 := Tryz.isAgg4
 rw [show (10000 : Nat) = 9999 + 1 from rfl, run_equalIn_agg w 9999 31 _ _ (by kernel_rfl) (by kernel_rfl)]
 simp only [Program.fieldsOf, Tryz.underlying31]
 go_simp
 by_cases h0 : a0 = b0 <;> by_cases h1 : a1 = b1 <;> by_cases h2 : a2 = b2 <;> simp [h0, h1, h2]
theorem neS31 {x y : Operand} {t : TypeId} {a0 b0 : Int} {a1 b1 : Int} {a2 b2 : Bool} (hx : ρ x = .agg #[.int .i64 a0, .int .i64 a1, .bool a2]) (hy : ρ y = .agg #[.int .i64 b0, .int .i64 b1, .bool b2]) : Y Tryz.prog ρ (.binOp .neq 31 x y t) ty w (.bool (!(decide (a0 = b0) && decide (a1 = b1) && decide (a2 = b2)))) w := by
 have hg := run_eqGuard_agg (P := Tryz.prog) w .neq 31 x y #[.int .i64 a0, .int .i64 a1, .bool a2] #[.int .i64 b0, .int .i64 b1, .bool b2] (by kernel_rfl)
 have he := run_neq_struct (P := Tryz.prog) w 31 #[.int .i64 a0, .int .i64 a1, .bool a2] #[.int .i64 b0, .int .i64 b1, .bool b2]
 rw [eqIn31] at he
 simp only [Result.andThen_ok] at he
 simp [Y, xop, execOp, hx, hy, hg, he]
theorem ti3 : Tryz.prog.info? 3 = some Tryz.t3 := by kernel_rfl
theorem ti25 : Tryz.prog.info? 25 = some Tryz.t25 := by kernel_rfl
theorem ti26 : Tryz.prog.info? 26 = some Tryz.t26 := by kernel_rfl
theorem ti31 : Tryz.prog.info? 31 = some Tryz.t31 := by kernel_rfl
theorem ti35 : Tryz.prog.info? 35 = some Tryz.t35 := by kernel_rfl
theorem ti45 : Tryz.prog.info? 45 = some Tryz.t45 := by kernel_rfl
theorem ti57 : Tryz.prog.info? 57 = some Tryz.t57 := by kernel_rfl
theorem ti103 : Tryz.prog.info? 103 = some Tryz.t103 := by kernel_rfl
end Go.Proofs.YtbbpiebhnbhbiaaGreat
namespace Bx
open Go Go.RowKit
/-- The cells of the i-th part of a slice. -/
theorem sl_at {α : Type} {w : World} {k : Nat} {R : World → List Value → α → Prop} {a : Option Addr} {n c : Nat} {l : List α} (h : Sl w k R (.slice a n c) l) {i : Nat} {x : α} (hx : l[i]? = some x) :
    ∃ b o cs, a = some ⟨b, o, none⟩ ∧ cs.length = k ∧ Cells w b (o + i * k) cs ∧ R w cs x ∧ i < n := by
  obtain ⟨a', c', he, hc, hm, hel⟩ := h
  have hi := (List.getElem?_eq_some_iff.1 hx).1
  have hn : n = l.length := by cases he; rfl
  have ha : a = a' := by cases he; rfl
  obtain ⟨b, o, cs, h1, h2, h3, h4⟩ := hel i hi
  have : l[i] = x := (List.getElem?_eq_some_iff.1 hx).2
  rw [this] at h4
  exact ⟨b, o, cs, ha.trans h1, h2, h3, h4, hn ▸ hi⟩
section
variable {α : Type} {enc : α → List Value} {k : Nat}
end
section
variable {P : Program} {ops : Array Oper} {Q : Exit → Act → World → Prop} {n : Nat} {f : Fr} {w w0 : World} {S : List Nat} {L L' : List Item} {rest : List Oper} {d : Nat} {ty : TypeId} {pos : String} {af : Array Edge} {ρ : Operand → Value}
end
section
variable {P : Program} {ops : Array Oper} {S : List Nat} {w0 : World} {L : List Item} {n : Nat} {rest : List Oper} {f : Fr} {d : Nat} {ty : TypeId} {pos : String} {af : Array Edge} {w : World} {Q : Exit → Act → World → Prop} {ρ : Operand → Value}
end
section
variable {P : Program} {ops : Array Oper} {Q : Exit → Act → World → Prop} {n : Nat} {f : Fr} {w : World} {rest : List Oper} {d : Nat} {ty : TypeId} {pos : String} {af : Array Edge}
theorem ungn {op : Op} {j dj : Nat} {want : Bool} {v : Value} (hd : dstOf ops j = some dj) (hn : Nat.blt dj n = true) (hb : f dj = v) (hv : v ≠ .bool want) (h : wpL P ops Q n rest (upd f d undef) w) : wpL P ops Q n (⟨some d, op, ty, pos, af, some (j, want)⟩ :: rest) f w :=
 wpL_guard (G := False) (v := undef) hd hn ⟨False.elim, fun e => hv (hb.symm.trans e)⟩ (fun g => g.elim) fun v' c => by rw [c.2 id]; exact h
end
theorem yIfaceG {P : Program} {ρ : Operand → Value} {w : World} {ty : TypeId} {T : TypeId} {x : Operand} {v : Value} {d : TypeDesc} (hx : ρ x = v) (hT : P.underlying T = some d) (hd : (match d with | .interface _ => false | _ => true) = true) : Y P ρ (.makeInterface T x) ty w (.iface T v) w := by
 cases d <;> first | (simp at hd; done) | simp [Y, xop, execOp, hx, Instr.makeInterface, run_underlying hT]
theorem yTaY {P : Program} {ρ : Operand → Value} {w : World} {ty : TypeId} {T s : TypeId} {x : Operand} {v : Value} {d : TypeDesc} (hx : ρ x = .iface T v) (hT : P.underlying T = some d) (hd : (match d with | .interface _ => false | _ => true) = true) : Y P ρ (.typeAssert x s T true) ty w (.tuple #[v, .bool true]) w := by
 cases d <;> first | (simp at hd; done) | simp [Y, xop, execOp, hx, Instr.typeAssert, run_underlying hT]
theorem yTaN {P : Program} {ρ : Operand → Value} {w : World} {ty : TypeId} {T T' s : TypeId} {x : Operand} {v z : Value} {d : TypeDesc} (hx : ρ x = .iface T' v) (hT : P.underlying T = some d) (hd : (match d with | .interface _ => false | _ => true) = true) (hne : T' ≠ T) (hz : ∀ w, (zeroValue T).run P w = .ok z w) : Y P ρ (.typeAssert x s T true) ty w (.tuple #[z, .bool false]) w := by
 cases d <;> first | (simp at hd; done) | simp [Y, xop, execOp, hx, Instr.typeAssert, run_underlying hT, hne, hz]
section
variable {P : Program} {ops : Array Oper} {S : List Nat} {w0 : World} {L : List Item} {K : Act → Prop} {n : Nat} {rest : List Oper} {f : Fr} {d : Nat} {ty : TypeId} {pos : String} {af : Array Edge}
theorem qgcf {j : Nat} {want : Bool} {dj : Nat} {B : Bool} {fx : Operand} {g : FuncId} {xs : List Operand} {ts : Array TypeId} {vs cl : List Value} {v : Value} (hd : dstOf ops j = some dj) (hn : Nat.blt dj n = true) (hb : f dj = .bool B)
    (hf : B = want → ev n f fx = .func (.func g) #[] cl.toArray) (hc : ∀ ars w, (callFunc g ars).run P w = .ok (.enter g ars) w) (ha : B = want → Evs (ev n f) xs vs) (hC : B = want → ∀ w, StX S w0 w L → CV P g (vs ++ cl).toArray w v)
    (h : ∀ v', Cnd (B = want) v' v → wpQ P ops S w0 L K n rest (upd f d v')) : wpQ P ops S w0 L K n (⟨some d, .call ⟨.value fx, xs.toArray, ts⟩, ty, pos, af, some (j, want)⟩ :: rest) f :=
  wpQ_guard hd hn (by rw [hb]; simp) (fun g' w hw => .inr ⟨g, _, by
    have hr := enter_run (P := P) (ρ := ev n f) (w := w) (ty := ty) (ts := ts) (hf g') (ha g') hc
    rw [List.append_toArray] at hr
    exact hr, hC g' w hw⟩) h
end
theorem yIxC {P : Program} {ρ : Operand → Value} {w : World} {ty : TypeId} {x i : Operand} {s : ByteArray} {k : IntKind} {m : Nat} {t : TypeId} (hx : ρ x = .string s) (hi : ρ i = .int k m) (ht : P.underlying t = some .string) (h : m < s.size) : Y P ρ (.index t x i) ty w (.int .u8 (((s[m]'h).toNat : Nat) : Int)) w := yIxS hx hi ht (getElem?_pos s m h)
end Bx
namespace Go.Proofs.YtbbpiebhnbhbiaaGreat
open Go.Shelf
def sortInts_ren : Go.Shelf.Ren := ⟨fun | 5 => 37 | 8 => 67 | 7 => 66 | 19 => 91 | 20 => 92 | 10 => 82 | 11 => 83 | 12 => 84 | 13 => 85 | 14 => 86 | 15 => 87 | 16 => 88 | 17 => 89 | 18 => 90 | 30 => 106 | 31 => 107 | 32 => 108 | 33 => 109 | 34 => 110 | 35 => 80 | 40 => 116 | n => n, fun | 23 => 26 | 25 => 3 | 3 => 3 | 32 => 101 | 22 => 26 | 0 => 0 | 44 => 159 | 46 => 56 | 4 => 4 | 36 => 151 | 35 => 150 | 41 => 156 | 5 => 5 | 9 => 9 | 53 => 167 | 57 => 171 | 63 => 177 | 64 => 90 | n => n, fun | n => n⟩
theorem sortInts : Go.Proofs.SlLaysM.n5 Tryz.prog sortInts_ren := {
 mixed := by kernel_rfl
 f5 := ⟨Tryz.f37.name, by decide, Tryz.func37.trans (congrArg some (by kernel_rfl))⟩
 f7 := ⟨Tryz.f66.name, by decide, Tryz.func66.trans (congrArg some (by kernel_rfl))⟩
 f8 := Tryz.func67.trans (congrArg some (by kernel_rfl))
 f10 := ⟨Tryz.f82.name, by decide, Tryz.func82.trans (congrArg some (by kernel_rfl))⟩
 f11 := ⟨Tryz.f83.name, by decide, Tryz.func83.trans (congrArg some (by kernel_rfl))⟩
 f12 := ⟨Tryz.f84.name, by decide, Tryz.func84.trans (congrArg some (by kernel_rfl))⟩
 f13 := ⟨Tryz.f85.name, by decide, Tryz.func85.trans (congrArg some (by kernel_rfl))⟩
 f14 := ⟨Tryz.f86.name, by decide, Tryz.func86.trans (congrArg some (by kernel_rfl))⟩
 f15 := ⟨Tryz.f87.name, by decide, Tryz.func87.trans (congrArg some (by kernel_rfl))⟩
 f16 := ⟨Tryz.f88.name, by decide, Tryz.func88.trans (congrArg some (by kernel_rfl))⟩
 f17 := ⟨Tryz.f89.name, by decide, Tryz.func89.trans (congrArg some (by kernel_rfl))⟩
 f18 := ⟨Tryz.f90.name, by decide, Tryz.func90.trans (congrArg some (by kernel_rfl))⟩
 f19 := Tryz.func91.trans (congrArg some (by kernel_rfl))
 f20 := Tryz.func92.trans (congrArg some (by kernel_rfl))
 f30 := ⟨Tryz.f106.name, by decide, Tryz.func106.trans (congrArg some (by kernel_rfl))⟩
 f31 := Tryz.func107.trans (congrArg some (by kernel_rfl))
 f32 := Tryz.func108.trans (congrArg some (by kernel_rfl))
 f33 := ⟨Tryz.f109.name, by decide, Tryz.func109.trans (congrArg some (by kernel_rfl))⟩
 f34 := ⟨Tryz.f110.name, by decide, Tryz.func110.trans (congrArg some (by kernel_rfl))⟩
 f35 := ⟨Tryz.f80.name, by decide, Tryz.func80.trans (congrArg some (by kernel_rfl))⟩
 f40 := ⟨Tryz.f116.name, by decide, Tryz.func116.trans (congrArg some (by kernel_rfl))⟩
 t0 := Tryz.underlying0
 a0 := Tryz.isAgg0
 z0 := Tryz.sizeOf0
 v0 := Tryz.zeroValue0
 t3 := Tryz.underlying3
 a3 := Tryz.isAgg3
 z3 := Tryz.sizeOf3
 v3 := Tryz.zeroValue3
 t4 := Tryz.underlying4
 a4 := Tryz.isAgg4
 z4 := Tryz.sizeOf4
 v4 := Tryz.zeroValue4
 t5 := Tryz.underlying5
 a5 := Tryz.isAgg5
 z5 := Tryz.sizeOf5
 v5 := Tryz.zeroValue5
 t9 := Tryz.underlying9
 a9 := Tryz.isAgg9
 z9 := Tryz.sizeOf9
 v9 := Tryz.zeroValue9
 t22 := Tryz.underlying26
 a22 := Tryz.isAgg26
 z22 := Tryz.sizeOf26
 v22 := Tryz.zeroValue26
 t23 := Tryz.underlying26
 a23 := Tryz.isAgg26
 z23 := Tryz.sizeOf26
 v23 := Tryz.zeroValue26
 t25 := Tryz.underlying3
 a25 := Tryz.isAgg3
 z25 := Tryz.sizeOf3
 v25 := Tryz.zeroValue3
 t32 := Tryz.underlying101
 a32 := Tryz.isAgg101
 z32 := Tryz.sizeOf101
 v32 := Tryz.zeroValue101
 t35 := Tryz.underlying150
 a35 := Tryz.isAgg150
 z35 := Tryz.sizeOf150
 v35 := Tryz.zeroValue150
 t36 := Tryz.underlying151
 a36 := Tryz.isAgg151
 z36 := Tryz.sizeOf151
 v36 := Tryz.zeroValue151
 t41 := Tryz.underlying156
 a41 := Tryz.isAgg156
 z41 := Tryz.sizeOf156
 v41 := Tryz.zeroValue156
 t44 := Tryz.underlying159
 a44 := Tryz.isAgg159
 z44 := Tryz.sizeOf159
 v44 := Tryz.zeroValue159
 t46 := Tryz.underlying56
 a46 := Tryz.isAgg56
 z46 := Tryz.sizeOf56
 v46 := Tryz.zeroValue56
 t53 := Tryz.underlying167
 a53 := Tryz.isAgg167
 z53 := Tryz.sizeOf167
 v53 := Tryz.zeroValue167
 t57 := Tryz.underlying171
 a57 := Tryz.isAgg171
 z57 := Tryz.sizeOf171
 v57 := Tryz.zeroValue171
 t63 := Tryz.underlying177
 a63 := Tryz.isAgg177
 z63 := Tryz.sizeOf177
 v63 := Tryz.zeroValue177
 t64 := Tryz.underlying90
 a64 := Tryz.isAgg90
 z64 := Tryz.sizeOf90
 v64 := Tryz.zeroValue90 }
open Go Bx Go.RowKit Go.Lib Go.Sort
theorem flat_encI (l : List Int) : l.flatMap Bx.encI = l.map (Value.int .i64) := by
 induction l with
 | nil => rfl
 | cons x l ih => rw [List.flatMap_cons, List.map_cons, ih]; rfl
theorem putI_take {cur : Array Value} {l : List Int} (h : l.length ≤ cur.size) : (Sort.putCells (Value.int .i64) 0 l.toArray cur).toList.take l.length = l.map (Value.int .i64) ∧ (Sort.putCells (Value.int .i64) 0 l.toArray cur).size = cur.size := by
 refine ⟨?_, by simp [Sort.putCells]⟩
 apply List.ext_getElem?
 intro t
 by_cases ht : t < l.length
 ·
  rw [List.getElem?_take_of_lt ht, Array.getElem?_toList, List.getElem?_map]
  simp only [Sort.putCells, Array.getElem?_mapIdx]
  have h1 : cur[t]? = some cur[t] := Array.getElem?_eq_getElem (by omega)
  rw [h1]
  simp only [Option.map_some]
  rw [if_pos ⟨Nat.zero_le _, by simp; omega⟩, Nat.sub_zero, getElem!_pos l.toArray t (by simpa using ht), List.getElem?_eq_getElem ht]
  rfl
 ·
  rw [List.getElem?_eq_none (by simp; omega), List.getElem?_eq_none (by simp; omega)]
theorem c_Sort {v : Value} {n : Nat} {l : List Int} {w0 : World} (hr : w0.ownsRow 0 3 1 v n (l.flatMap Bx.encI)) (hl : l.length = n) (hn : n < 4611686018427387904) :
    CE Tryz.prog 37 #[v] w0 (fun u w' => u = .tuple #[] ∧ w0.grownBy w' v.ownBlock ∧ w'.ownsRow 0 3 1 v n ((sortI l).flatMap Bx.encI)) := by
  rcases id hr.2 with ⟨rfl, rfl⟩ | ⟨gb, cap, cur, rfl, -, hg, hnc, hcap, hcs, ht⟩
  · refine Calls.mono (AnyM.slices_Sort_int_none sortInts none 0 w0) ?_
    rintro e w' ⟨rfl, rfl⟩
    obtain rfl : l = [] := List.eq_nil_of_length_eq_zero hl
    exact ⟨_, rfl, rfl, ⟨rfl, rfl, rfl, Nat.le_refl _, fun _ _ _ => rfl⟩, by rw [show sortI [] = [] from by simp [sortI]]; exact hr⟩
  · rw [Nat.mul_one] at hcs ht
    rw [flat_encI] at ht
    have hH : Holds (Value.int .i64) w0 gb 0 l.toArray := by
      intro j hj
      simp only [List.size_toArray] at hj
      have h1 : (cur.toList.take n)[j]? = (l.map (Value.int .i64))[j]? := by rw [ht]
      rw [List.getElem?_take_of_lt (by omega), Array.getElem?_toList, List.getElem?_map, List.getElem?_eq_getElem hj] at h1
      refine ⟨?_, by simp [World.frozen?, hg]⟩
      simp only [World.cell?, hg, Nat.zero_add, h1, Option.map_some]
      rw [getElem!_pos l.toArray j (by simpa using hj)]
      simp
    have h := AnyM.slices_Sort_int sortInts gb 0 cap l w0 hH (lt_of_heap hg) (by omega)
    rw [hl] at h
    refine Calls.mono h ?_
    rintro e w' ⟨rfl, m, os, rfl⟩
    have hlen : (sortI l).length = n := by rw [(sortI_perm l).length_eq, hl]
    obtain ⟨h1, h2⟩ := putI_take (cur := cur) (l := sortI l) (by omega)
    have hlt := lt_of_heap hg
    have hHp : (Sort.grow (Sort.putRow (Value.int .i64) (Sort.ahead w0 m) gb 0 (sortI l).toArray) os).heap = w0.heap.modify gb (Sort.onCells (Sort.putCells (Value.int .i64) 0 (sortI l).toArray)) ++ os := rfl
    have hsz : (w0.heap.modify gb (Sort.onCells (Sort.putCells (Value.int .i64) 0 (sortI l).toArray))).size = w0.heap.size := by simp
    refine ⟨_, rfl, rfl, ⟨rfl, rfl, rfl, ?_, ?_⟩, ⟨?_, .inr ⟨gb, cap, Sort.putCells (Value.int .i64) 0 (sortI l).toArray cur, rfl, Nat.zero_le _, ?_, hnc, hcap, ?_, ?_⟩⟩⟩
    · show w0.heap.size ≤ (Sort.grow (Sort.putRow (Value.int .i64) (Sort.ahead w0 m) gb 0 (sortI l).toArray) os).heap.size
      rw [hHp, Array.size_append, hsz]; omega
    · intro k hk hne
      show (Sort.grow (Sort.putRow (Value.int .i64) (Sort.ahead w0 m) gb 0 (sortI l).toArray) os).heap[k]? = _
      rw [hHp, Array.getElem?_append, if_pos (by rw [hsz]; exact hk), Array.getElem?_modify, if_neg (fun e => hne (by rw [e]; rfl))]
    · rw [flat_encI, List.length_map, hlen, Nat.mul_one]
    · show (Sort.grow (Sort.putRow (Value.int .i64) (Sort.ahead w0 m) gb 0 (sortI l).toArray) os).heap[gb]? = _
      rw [hHp, Array.getElem?_append, if_pos (by rw [hsz]; exact hlt), Array.getElem?_modify, if_pos rfl, hg]
      rfl
    · rw [h2, hcs, Nat.mul_one]
    · rw [Nat.mul_one, ← hlen, h1, flat_encI]
end Go.Proofs.YtbbpiebhnbhbiaaGreat
namespace Bx
open Go Go.RowKit
structure Sen where
 kind : Int
 pl : Int
 tol : Int
structure Gat where
 name : ByteArray
 kind : Int
 travel : Int
 own : List Int
 opn : Int
 shut : Int
 height : Int
 float : Int
 push : Int
 slide : Int
 sfr : Int
 drive : Int
 brake : Int
 speed : Int
 gravity : Int
 use : Int
 pump : Int
 room : Int
 slack : Int
 sens : List Sen
 wrong : Int
structure GSt where
 pos : Int
 charge : Int
 bolted : Bool
deriving DecidableEq
structure GSp where
 order : Int
 power : Bool
 outer : Int
 inner : Int
def senC (s : Sen) : List Value := [.int .i64 s.kind, .int .i64 s.pl, .int .i64 s.tol]
def RSen (_ : World) (cs : List Value) (s : Sen) : Prop := cs = senC s ∧ I64 s.kind ∧ I64 s.pl ∧ I64 s.tol
theorem RSen.stays : Stays RSen := fun _ _ _ _ _ h => h
abbrev gatL (g : Gat) (ov sv : Value) : List Value := [.string g.name, .int .i64 g.kind, .int .i64 g.travel, ov, .int .i64 g.opn, .int .i64 g.shut, .int .i64 g.height, .int .i64 g.float, .int .i64 g.push, .int .i64 g.slide, .int .i64 g.sfr, .int .i64 g.drive, .int .i64 g.brake, .int .i64 g.speed, .int .i64 g.gravity, .int .i64 g.use, .int .i64 g.pump, .int .i64 g.room, .int .i64 g.slack, sv, .int .i64 g.wrong]
structure RGatP (w : World) (g : Gat) (ov sv : Value) : Prop where
 name : g.name.size ≤ 9223372036854775807
 own : Sl w 1 RInt ov g.own
 sens : Sl w 3 RSen sv g.sens
 i64 : I64 g.float ∧ I64 g.slide ∧ I64 g.sfr ∧ I64 g.drive ∧ I64 g.brake ∧ I64 g.use ∧ I64 g.pump ∧ I64 g.room ∧ I64 g.slack ∧ I64 g.wrong
theorem RGatP.ext {w w' : World} {g : Gat} {ov sv : Value} (h : RGatP w g ov sv) (e : Ext w w') : RGatP w' g ov sv := ⟨h.name, h.own.ext RInt.stays e, h.sens.ext RSen.stays e, h.i64⟩
def RGat (w : World) (cs : List Value) (g : Gat) : Prop := ∃ ov sv, cs = gatL g ov sv ∧ RGatP w g ov sv
def gstC (s : GSt) : List Value := [.int .i64 s.pos, .int .i64 s.charge, .bool s.bolted]
theorem gstC_len (s : GSt) : (gstC s).length = 3 := rfl
def gspC (t : GSp) : List Value := [.int .i64 t.order, .bool t.power, .int .i64 t.outer, .int .i64 t.inner]
theorem gspC_len (t : GSp) : (gspC t).length = 4 := rfl
abbrev macL (g : Gat) (ov sv : Value) (s : GSt) (t : GSp) (net rub oil : Int) : List Value := [.string g.name, .int .i64 g.kind, .int .i64 g.travel, ov, .int .i64 g.opn, .int .i64 g.shut, .int .i64 g.height, .int .i64 g.float, .int .i64 g.push, .int .i64 g.slide, .int .i64 g.sfr, .int .i64 g.drive, .int .i64 g.brake, .int .i64 g.speed, .int .i64 g.gravity, .int .i64 g.use, .int .i64 g.pump, .int .i64 g.room, .int .i64 g.slack, sv, .int .i64 g.wrong,
 .int .i64 s.pos, .int .i64 s.charge, .bool s.bolted, .int .i64 t.order, .bool t.power, .int .i64 t.outer, .int .i64 t.inner, .int .i64 net, .int .i64 rub, .int .i64 oil]
def dryB (n : Int) : Bool := outB n (-20000) 20000
def beyB (most : Int) (l : List Int) : Bool := l.any fun n => outB n 0 most
def frcE (kind n : Int) : Int := if outB n (-200000) 200000 = true then 7 else if ((decide (n ≠ 0) && decide (kind = 1)) || (decide (n < 0) && decide (kind = 2)) || (decide (0 < n) && decide (kind = 3))) = true then 2 else 0
def senE (s : Sen) : Int := if (decide (s.kind ≠ 2) && (decide (s.kind ≠ 1) || decide (s.pl ≠ 0))) = true then 2 else if beyB 5000 [s.pl, s.tol] = true then 7 else 0
/-- The first number that is not 0, of what is said of a list. -/
def fstE {α : Type} (f : α → Int) : List α → Int
 | [] => 0
 | x :: l => if f x ≠ 0 then f x else fstE f l
theorem fstE_step {α : Type} {f : α → Int} {x : α} {l : List α} (h : f x = 0) : fstE f (x :: l) = fstE f l := by unfold fstE; rw [if_neg (fun k => k h)]; cases l <;> rfl
theorem fstE_hit {α : Type} {f : α → Int} {x : α} {l : List α} (h : f x ≠ 0) : fstE f (x :: l) = f x := by unfold fstE; rw [if_pos h]
theorem fstE_ok {α : Type} {f : α → Int} : ∀ {l : List α}, fstE f l = 0 → ∀ x ∈ l, f x = 0
  | y :: l, h, x, hx => by
    unfold fstE at h
    split at h
    next k => exact absurd h k
    next k =>
      rcases List.mem_cons.1 hx with rfl | hx
      · exact Decidable.not_not.1 k
      · exact fstE_ok h x hx
section
variable (g : Gat)
def gc1 : Int := if (!isName g.name) = true then 6 else if outB g.kind 1 3 = true then 2 else if outB g.travel 1 5000 = true then 7 else 0
def gb1 : Bool := dryB g.opn || dryB g.shut || outB g.height 1 30000
def gb2 : Bool := beyB 10000 [g.float, g.slide] || outB g.push (-10000) 10000
def gb3 : Bool := beyB 200000 [g.sfr, g.drive, g.brake]
def gb4 : Bool := outB g.speed 1 100 || outB g.gravity 1 100
def gb5 : Bool := beyB 100000 [g.use, g.pump, g.room] || beyB ((g.travel - 1) / 2) [g.slack]
def gc3 : Int := if gb1 g = true then 7 else if gb2 g = true then 7 else if gb3 g = true then 7 else if gb4 g = true then 7 else if gb5 g = true then 7 else 0
def chkG : Int :=
 if gc1 g ≠ 0 then gc1 g
 else if outB g.own.length 2 16 = true then 3
 else if fstE (frcE g.kind) g.own ≠ 0 then fstE (frcE g.kind) g.own
 else if gc3 g ≠ 0 then gc3 g
 else if (6 : Int) < g.sens.length then 3
 else if fstE senE g.sens ≠ 0 then fstE senE g.sens
 else if beyB g.sens.length [g.wrong] = true then 7 else 0
def lostE (s : GSt) : Int := if (outB s.pos 0 g.travel || outB s.charge 0 g.room) = true then 7 else 0
def stepE (t : GSp) : Int := if outB t.order 0 2 = true then 2 else if (dryB t.outer || dryB t.inner) = true then 7 else 0
def oddE (s : GSt) (t : GSp) : Int := if lostE g s ≠ 0 then lostE g s else stepE t
def atE (o i : Int) : Int := if chkG g ≠ 0 then chkG g else if (dryB o || dryB i) = true then 7 else 0
theorem gc1_ok (h : gc1 g = 0) : (1 ≤ g.kind ∧ g.kind ≤ 3) ∧ 1 ≤ g.travel ∧ g.travel ≤ 5000 := by
 unfold gc1 at h
 split at h
 ·
  simp at h
 split at h
 ·
  simp at h
 next k1 =>
 split at h
 ·
  simp at h
 next k2 =>
 simp only [Bool.not_eq_true, outB_false] at k1 k2
 exact ⟨k1, k2⟩
structure GatOk : Prop where
 kind : 1 ≤ g.kind ∧ g.kind ≤ 3
 trav : 1 ≤ g.travel ∧ g.travel ≤ 5000
 lown : 2 ≤ g.own.length ∧ g.own.length ≤ 16
 own : ∀ x ∈ g.own, -200000 ≤ x ∧ x ≤ 200000
 opn : -20000 ≤ g.opn ∧ g.opn ≤ 20000
 shut : -20000 ≤ g.shut ∧ g.shut ≤ 20000
 height : 1 ≤ g.height ∧ g.height ≤ 30000
 float : 0 ≤ g.float ∧ g.float ≤ 10000
 slide : 0 ≤ g.slide ∧ g.slide ≤ 10000
 push : -10000 ≤ g.push ∧ g.push ≤ 10000
 sfr : 0 ≤ g.sfr ∧ g.sfr ≤ 200000
 drive : 0 ≤ g.drive ∧ g.drive ≤ 200000
 brake : 0 ≤ g.brake ∧ g.brake ≤ 200000
 speed : 1 ≤ g.speed ∧ g.speed ≤ 100
 gravity : 1 ≤ g.gravity ∧ g.gravity ≤ 100
 use : 0 ≤ g.use ∧ g.use ≤ 100000
 pump : 0 ≤ g.pump ∧ g.pump ≤ 100000
 room : 0 ≤ g.room ∧ g.room ≤ 100000
theorem gat_ok (h : chkG g = 0) : GatOk g := by
 unfold chkG at h
 split at h
 next k => exact absurd h k
 next h1 =>
 split at h
 ·
  simp at h
 next h2 =>
 split at h
 next k => exact absurd h k
 next h3 =>
 split at h
 next k => exact absurd h k
 next h4 =>
 have h1 := Decidable.not_not.1 h1
 have h3 := Decidable.not_not.1 h3
 have h4 := Decidable.not_not.1 h4
 simp only [Bool.not_eq_true, outB_false] at h2
 unfold gc1 at h1
 split at h1
 ·
  simp at h1
 split at h1
 ·
  simp at h1
 next k1 =>
 split at h1
 ·
  simp at h1
 next k2 =>
 simp only [Bool.not_eq_true, outB_false] at k1 k2
 unfold gc3 at h4
 split at h4
 ·
  simp at h4
 next a1 =>
 split at h4
 ·
  simp at h4
 next a2 =>
 split at h4
 ·
  simp at h4
 next a3 =>
 split at h4
 ·
  simp at h4
 next a4 =>
 split at h4
 ·
  simp at h4
 next a5 =>
 simp only [gb1, dryB, Bool.not_eq_true, Bool.or_eq_false_iff, outB_false] at a1
 simp only [gb2, beyB, List.any_cons, List.any_nil, Bool.not_eq_true, Bool.or_eq_false_iff, outB_false] at a2
 simp only [gb3, beyB, List.any_cons, List.any_nil, Bool.not_eq_true, Bool.or_eq_false_iff, outB_false] at a3
 simp only [gb4, Bool.not_eq_true, Bool.or_eq_false_iff, outB_false] at a4
 simp only [gb5, beyB, List.any_cons, List.any_nil, Bool.not_eq_true, Bool.or_eq_false_iff, outB_false] at a5
 refine ⟨by omega, by omega, by omega, fun x hx => ?_, by omega, by omega, by omega, by omega, by omega, by omega, by omega, by omega, by omega, by omega, by omega, by omega, by omega, by omega⟩
 have := fstE_ok h3 x hx
 unfold frcE at this
 split at this
 ·
  simp at this
 next k => simpa only [Bool.not_eq_true, outB_false] using k
def dnF (a b : Int) : Int := if a < 0 then -((-a + b - 1) / b) else a / b
def gow (k : Int) : Int := g.own.getD k.toNat 0
def fN (p : Int) : Int := p * ((g.own.length : Int) - 1)
def fK (p : Int) : Int := min (fN g p / g.travel) ((g.own.length : Int) - 2)
def fR (p : Int) : Int := fN g p - fK g p * g.travel
def fA (p : Int) : Int := dnF (gow g (fK g p) * (g.travel - fR g p) + gow g (fK g p + 1) * fR g p) g.travel
def fE (p : Int) : Int := dnF (g.opn * (g.travel - p) + g.shut * p) g.travel
def fF (p o i : Int) : Int := g.float * min (max (min o i - fE g p) 0) g.height / 1000
def fW (p o i : Int) : Int := min (max (max o i - fE g p) 0) g.height
def netF (p o i : Int) : Int := (if g.kind = 3 then fA g p + fF g p o i else fA g p - fF g p o i) + dnF (g.push * (o - i)) 1000
def rubF (p o i : Int) : Int := g.sfr + (g.slide * (max o i - min o i) * fW g p o i + 999999) / 1000000
end
theorem mulA {a b : Int} (A B : Nat) (ha : a.natAbs ≤ A) (hb : b.natAbs ≤ B) : (a * b).natAbs ≤ A * B := by rw [Int.natAbs_mul]; exact Nat.mul_le_mul ha hb
theorem dn_bd {a b : Int} (A : Nat) (hb : 0 < b) (ha : a.natAbs ≤ A) : (dnF a b).natAbs ≤ A := by
 unfold dnF
 split
 next h =>
  have h1 : (-a + b - 1) / b < -a + 1 := Int.ediv_lt_of_lt_mul hb (by
   have : -a + 1 + (b - 1) ≤ (-a + 1) * b := by
    have h2 := Int.mul_nonneg (show 0 ≤ -a by omega) (show 0 ≤ b - 1 by omega)
    have h3 : -a * (b - 1) = -a * b - -a := by rw [Int.mul_sub, Int.mul_one]
    have h4 : (-a + 1) * b = -a * b + b := by rw [Int.add_mul, Int.one_mul]
    omega
   omega)
  have h2 : 0 ≤ (-a + b - 1) / b := Int.ediv_nonneg (by omega) (by omega)
  omega
 next h =>
  have h1 := Int.ediv_nonneg (show 0 ≤ a by omega) (show 0 ≤ b by omega)
  have h2 := Int.ediv_le_self b (show 0 ≤ a by omega)
  omega
section
variable {g : Gat}
theorem gow_bd (h : GatOk g) (k : Int) : (gow g k).natAbs ≤ 200000 := by
 unfold gow
 rw [List.getD_eq_getElem?_getD]
 cases hk : g.own[k.toNat]? with
 | none => simp
 | some x => have := h.own x (List.mem_of_getElem? hk); simp; omega
theorem fN_bd (h : GatOk g) {p : Int} (hp : 0 ≤ p ∧ p ≤ g.travel) : 0 ≤ fN g p ∧ fN g p ≤ 75000 ∧ fN g p ≤ ((g.own.length : Int) - 1) * g.travel := by
 have h1 := h.trav; have h2 := h.lown
 have hq : 0 ≤ (g.own.length : Int) - 1 := by omega
 have a0 := Int.mul_nonneg hp.1 hq
 have a1 : p * ((g.own.length : Int) - 1) ≤ g.travel * ((g.own.length : Int) - 1) := Int.mul_le_mul_of_nonneg_right hp.2 hq
 have a2 := mulA 5000 15 (a := g.travel) (b := (g.own.length : Int) - 1) (by omega) (by omega)
 have a3 := Int.mul_comm g.travel ((g.own.length : Int) - 1)
 unfold fN
 omega
theorem fK_bd (h : GatOk g) {p : Int} (hp : 0 ≤ p ∧ p ≤ g.travel) : 0 ≤ fK g p ∧ fK g p + 2 ≤ g.own.length ∧ 0 ≤ fR g p ∧ fR g p ≤ g.travel ∧ (fK g p * g.travel).natAbs ≤ 75000 := by
 have h1 := h.trav; have h2 := h.lown
 obtain ⟨a0, a1, a2⟩ := fN_bd h hp
 have b0 := Int.ediv_nonneg a0 (show 0 ≤ g.travel by omega)
 have c0 : 0 ≤ fK g p ∧ fK g p + 2 ≤ g.own.length := by unfold fK; omega
 have c1 : fK g p ≤ fN g p / g.travel := by unfold fK; omega
 have c2 : fK g p * g.travel ≤ fN g p / g.travel * g.travel := Int.mul_le_mul_of_nonneg_right c1 (by omega)
 have c3 := Int.ediv_mul_le (fN g p) (show g.travel ≠ 0 by omega)
 have c4 := Int.mul_nonneg c0.1 (show 0 ≤ g.travel by omega)
 have c5 : fR g p ≤ g.travel := by
  unfold fR
  by_cases hk : fN g p / g.travel ≤ (g.own.length : Int) - 2
  ·
   have e : fK g p = fN g p / g.travel := by unfold fK; omega
   rw [e]
   have d1 := Int.lt_ediv_add_one_mul_self (fN g p) (show 0 < g.travel by omega)
   have d2 : (fN g p / g.travel + 1) * g.travel = fN g p / g.travel * g.travel + g.travel := by rw [Int.add_mul, Int.one_mul]
   omega
  ·
   have e : fK g p = (g.own.length : Int) - 2 := by unfold fK; omega
   rw [e]
   have d2 : ((g.own.length : Int) - 1) * g.travel = ((g.own.length : Int) - 2) * g.travel + g.travel := by
    rw [show (g.own.length : Int) - 1 = ((g.own.length : Int) - 2) + 1 by omega, Int.add_mul, Int.one_mul]
   omega
 refine ⟨c0.1, c0.2, ?_, c5, ?_⟩
 ·
  unfold fR; omega
 ·
  omega
end
end Bx
namespace Go.Proofs.YtbbpiebhnbhbiaaGreat
open Go Bx
/-- barrage/gate.out -/
theorem c_out {a lo hi : Int} {w0 : World} : CV Tryz.prog 43 #[.int .i64 a, .int .i64 lo, .int .i64 hi] w0 (.bool (outB a lo hi)) := by
 refine enter Tryz.func43 rfl Tryz.ntmps43 rfl ?_
 have hS := St.start w0
 refine seq ?_
 refine region ?_
 refine sv (yAsg rfl) ?_
 refine nil ?_
 show Code.wp _ _ _ _ _
 refine seq ?_
 refine region ?_
 refine sv (yMove rfl) ?_
 refine sv (yMove rfl) ?_
 refine sv (yLss rfl rfl) ?_
 refine sv (yMove rfl) ?_
 refine sg rfl rfl rfl (fun g => (yMove rfl)) (fun v11 g11 => ?_)
 refine sg rfl rfl rfl (fun g => (yMove rfl)) (fun v12 g12 => ?_)
 refine sg rfl rfl rfl (fun g => (yGtr (g11.1 g) (g12.1 g))) (fun v13 g13 => ?_)
 refine sv (yOr rfl rfl (fun hB => (g13.1 hB))) ?_
 refine sv (yAsg rfl) ?_
 refine nil ?_
 show Code.wp _ _ _ _ _
 refine wp_ret ?_
 exact retV (res1 rfl rfl) hS.ext
/-- barrage/tide.Name -/
theorem c_Name {s : ByteArray} {w0 : World} (hs : s.size ≤ 9223372036854775807) : CV Tryz.prog 41 #[.string s] w0 (.bool (isName s)) := by
 refine enter Tryz.func41 rfl Tryz.ntmps41 rfl ?_
 have hS := St.start w0
 refine seq ?_
 refine region ?_
 refine sv (yAsg rfl) ?_
 refine nil ?_
 show Code.wp _ _ _ _ _
 refine seq ?_
 refine seq ?_
 refine region ?_
 refine sv (yMove rfl) ?_
 refine sv (yLenS rfl Tryz.underlying9) ?_
 refine sv (yMove rfl) ?_
 refine nil ?_
 show Code.wp _ _ _ _ _
 refine block ?_
 refine loop (fun f w zz => ∃ (k : Nat), f 0 = .string s ∧ f 6 = .int .i64 (s.size : Int) ∧ f 7 = .int .i64 (k : Int) ∧ StX [] w0 w [] ∧ (k ≤ s.size) ∧ (∀ i, i < k → okAt s i) ∧ zz = s.size - k) _ ⟨_, rfl, 0, rfl, rfl, rfl, hS, (Nat.zero_le _), (fun i hi => absurd hi (Nat.not_lt_zero i)), rfl⟩ ?_
 clear hS
 rintro f w _ ⟨k, h0, h6, h7, hS, hk, hP, rfl⟩
 refine seq ?_
 refine region ?_
 refine sv (yLss h7 h6) ?_
 refine nil ?_
 show Code.wp _ _ _ _ _
 refine seq ?_
 refine cond rfl (fun c8 => ?_) (fun c8 => ?_)
 ·
  simp only [BS, ne_eq] at c8
  refine skip ?_
  show Code.wp _ _ _ _ _
  refine seq ?_
  refine block ?_
  refine seq ?_
  refine region ?_
  refine sv (yMove h7) ?_
  refine sv (yAsg rfl) ?_
  refine nil ?_
  show Code.wp _ _ _ _ _
  refine seq ?_
  refine region ?_
  refine sv (yMove h0) ?_
  refine sv (yMove rfl) ?_
  refine sv (yIxS rfl rfl Tryz.underlying9 (getElem?_pos s k (by omega))) ?_
  refine sv (yAsg rfl) ?_
  refine nil ?_
  show Code.wp _ _ _ _ _
  refine block ?_
  refine seq ?_
  refine region ?_
  refine sv (yMove rfl) ?_
  refine sv (yLeq rfl rfl) ?_
  refine sv (yMove rfl) ?_
  refine sg rfl rfl rfl (fun g => (yMove rfl)) (fun v17 g17 => ?_)
  refine sg rfl rfl rfl (fun g => (yLeq (g17.1 g) rfl)) (fun v18 g18 => ?_)
  refine sv (yAnd rfl (fun hB => (g18.1 hB)) rfl) ?_
  refine sv (yAsg rfl) ?_
  refine nil ?_
  show Code.wp _ _ _ _ _
  refine cond rfl (fun c13 => ?_) (fun c13 => ?_)
  ·
   simp only [BS, ne_eq] at c13
   refine skip ?_
   show Code.wp _ _ _ _ _
   refine region ?_
   refine sv (yAdd h7 rfl ⟨by omega, by omega⟩) ?_
   refine sv (yMove rfl) ?_
   refine nil ?_
   exact ⟨_, _, rfl, ⟨k + 1, h0, h6, rfl, hS, (by omega), (snoc hP ((okAt_of s k (by omega)).2 (by omega))), rfl⟩, by omega⟩
  ·
   simp only [BS, ne_eq] at c13
   refine seq ?_
   refine region ?_
   refine sv (yMove rfl) ?_
   refine sv (yGtr rfl rfl) ?_
   refine sv (yMove rfl) ?_
   refine sg rfl rfl rfl (fun g => (yMove rfl)) (fun v24 g24 => ?_)
   refine sg rfl rfl rfl (fun g => (yEql (g24.1 g) rfl)) (fun v25 g25 => ?_)
   refine sg rfl rfl rfl (fun g => (yMove (g25.1 g))) (fun v26 g26 => ?_)
   refine sgg rfl rfl g26 (fun g => (yMove rfl)) (fun v27 g27 => ?_)
   refine sgg rfl rfl g26 (fun g => (yLeq rfl (g27.1 g))) (fun v28 g28 => ?_)
   refine sgg rfl rfl g26 (fun g => (yMove (g28.1 g))) (fun v29 g29 => ?_)
   refine sgg rfl rfl g29 (fun g => (yMove rfl)) (fun v30 g30 => ?_)
   refine sgg rfl rfl g29 (fun g => (yLeq (g30.1 g) rfl)) (fun v31 g31 => ?_)
   refine sgg rfl rfl g26 (fun g => (yAnd (g29.1 g) (fun hB => (g31.1 ⟨g, hB⟩)) rfl)) (fun v32 g32 => ?_)
   refine sg rfl rfl rfl (fun g => (yOr (g26.1 g) rfl (fun hB => (g32.1 ⟨g, hB⟩)))) (fun v33 g33 => ?_)
   refine sv (yAnd rfl (fun hB => (g33.1 hB)) rfl) ?_
   refine sv (yAsg rfl) ?_
   refine nil ?_
   show Code.wp _ _ _ _ _
   refine cond rfl (fun c20 => ?_) (fun c20 => ?_)
   ·
    simp only [BS, ne_eq] at c20
    refine skip ?_
    show Code.wp _ _ _ _ _
    refine region ?_
    refine sv (yAdd h7 rfl ⟨by omega, by omega⟩) ?_
    refine sv (yMove rfl) ?_
    refine nil ?_
    exact ⟨_, _, rfl, ⟨k + 1, h0, h6, rfl, hS, (by omega), (snoc hP ((okAt_of s k (by omega)).2 (by omega))), rfl⟩, by omega⟩
   ·
    simp only [BS, ne_eq] at c20
    refine seq ?_
    refine region ?_
    refine sv (yAsg rfl) ?_
    refine nil ?_
    show Code.wp _ _ _ _ _
    refine wp_ret (blockR (blockR (thenR (thenR (blockR (thenR ?_))))))
    exact retV (res1 rfl (by rw [isName_bad s k (by omega) (fun h => by have := (okAt_of s k (by omega)).1 h; omega)]; rfl)) hS.ext
 ·
  simp only [BS, ne_eq] at c8
  refine exit ?_
  show Code.wp _ _ _ _ _
  refine seq ?_
  refine region ?_
  refine sv (yMove h0) ?_
  refine sv (ySNe rfl rfl) ?_
  refine sv (yMove rfl) ?_
  refine sg rfl rfl rfl (fun g => (yMove h0)) (fun v39 g39 => ?_)
  refine sg rfl rfl rfl (fun g => (yLenS (g39.1 g) Tryz.underlying9)) (fun v40 g40 => ?_)
  refine sg rfl rfl rfl (fun g => (yLeq (g40.1 g) rfl)) (fun v41 g41 => ?_)
  refine sv (yAnd rfl (fun hB => (g41.1 hB)) rfl) ?_
  refine sv (yAsg rfl) ?_
  refine nil ?_
  show Code.wp _ _ _ _ _
  refine wp_ret ?_
  exact retV (res1 rfl (by rw [isName_end s (fun i hi => hP i (by omega))]; rfl)) hS.ext
/-- slices.IndexFunc   int,int  -/
theorem c_IndexFuncInt {l : List Int} {p : Int → Bool} {v : Value} {g : Nat} {cl : List Value} {w0 : World} (hsl : Sl w0 1 RInt v l) (hcall : ∀ ys w, (callFunc g ys).run Tryz.prog w = .ok (.enter g ys) w) (hp : ∀ x cs w, x ∈ l → Ext w0 w → RInt w cs x → CV Tryz.prog g (.int .i64 x :: cl).toArray w (.bool (p x))) : CV Tryz.prog 93 #[v, .func (.func g) #[] cl.toArray] w0 (.int .i64 (idxF p l 0)) := by
 obtain ⟨a, cap, rfl, hcap, hmx, hel⟩ := hsl
 refine enter Tryz.func93 rfl Tryz.ntmps93 rfl ?_
 have hS := St.start w0
 refine seq ?_
 refine region ?_
 refine sv (yAsg rfl) ?_
 refine nil ?_
 show Code.wp _ _ _ _ _
 refine seq ?_
 refine seq ?_
 refine region ?_
 refine sv (yMove rfl) ?_
 refine sv (yLen rfl Tryz.underlying26) ?_
 refine sv (yMove rfl) ?_
 refine nil ?_
 show Code.wp _ _ _ _ _
 refine block ?_
 refine loop (fun f w zz => ∃ (k : Nat), f 0 = .slice a l.length cap ∧ f 1 = .func (.func g) #[] cl.toArray ∧ f 7 = .int .i64 (l.length : Int) ∧ f 8 = .int .i64 (k : Int) ∧ StX [] w0 w [] ∧ (k ≤ l.length) ∧ (idxF p l 0 = idxF p (l.drop k) k) ∧ zz = l.length - k) _ ⟨_, rfl, 0, rfl, rfl, rfl, rfl, hS, (Nat.zero_le _), (rfl), rfl⟩ ?_
 clear hS
 rintro f w _ ⟨k, h0, h1, h7, h8, hS, hk, hI, rfl⟩
 refine seq ?_
 refine region ?_
 refine sv (yLss h8 h7) ?_
 refine nil ?_
 show Code.wp _ _ _ _ _
 refine seq ?_
 refine cond rfl (fun c9 => ?_) (fun c9 => ?_)
 ·
  simp only [BS, ne_eq] at c9
  refine skip ?_
  show Code.wp _ _ _ _ _
  refine seq ?_
  refine block ?_
  refine seq ?_
  refine region ?_
  refine sv (yMove h8) ?_
  refine sv (yAsg rfl) ?_
  refine nil ?_
  show Code.wp _ _ _ _ _
  refine seq ?_
  refine region ?_
  obtain ⟨x, hx, hd⟩ := drop_of (l := l) (k := k) (by omega)
  obtain ⟨b, o, cs, ha, hlen, hcs, hR⟩ := hel k (by omega)
  obtain rfl : x = l[k] := (List.getElem?_eq_some_iff.1 hx).2.symm
  obtain ⟨rfl, hi64⟩ := hR
  have hR : RInt w0 [.int .i64 l[k]] l[k] := ⟨rfl, hi64⟩
  refine sv (yMove h1) ?_
  refine sv (yMove h0) ?_
  refine sv (yMove rfl) ?_
  refine sv (yIxa rfl ha rfl Tryz.runUnderlying26 Tryz.sizeOf3 (by omega) (by omega)) ?_
  refine sv (yLd rfl Tryz.isAgg3 (hcs.ext hS.ext).one) ?_
  refine scallf rfl hcall (.cons rfl .nil) (hp _ _ _ (List.getElem_mem _) hS.ext hR) ?_
  rintro _ w ⟨rfl, hE⟩; replace hS := hS.step hE; clear hE
  refine nil ?_
  show Code.wp _ _ _ _ _
  refine cond rfl (fun c16 => ?_) (fun c16 => ?_)
  ·
   refine seq ?_
   refine region ?_
   refine sv (yMove rfl) ?_
   refine sv (yAsg rfl) ?_
   refine nil ?_
   show Code.wp _ _ _ _ _
   refine wp_ret (blockR (thenR (thenR (blockR (thenR ?_)))))
   exact retV (res1 rfl (by rw [hI, hd, idxF, if_pos c16]; rfl)) hS.ext
  ·
   refine skip ?_
   show Code.wp _ _ _ _ _
   refine region ?_
   refine sv (yAdd h8 rfl ⟨by omega, by omega⟩) ?_
   refine sv (yMove rfl) ?_
   refine nil ?_
   exact ⟨_, _, rfl, ⟨k + 1, h0, h1, h7, rfl, hS, (by omega), (by rw [hI, hd, idxF, if_neg (by simp [c16])]; rfl), rfl⟩, by omega⟩
 ·
  simp only [BS, ne_eq] at c9
  refine exit ?_
  show Code.wp _ _ _ _ _
  refine seq ?_
  refine region ?_
  refine sv (yAsg rfl) ?_
  refine nil ?_
  show Code.wp _ _ _ _ _
  obtain rfl : k = l.length := by omega
  refine wp_ret ?_
  exact retV (res1 rfl (by rw [hI, List.drop_length]; rfl)) hS.ext
/-- slices.ContainsFunc   int,int  -/
theorem c_ContainsFuncInt {l : List Int} {p : Int → Bool} {v : Value} {g : Nat} {cl : List Value} {w0 : World} (hsl : Sl w0 1 RInt v l) (hcall : ∀ ys w, (callFunc g ys).run Tryz.prog w = .ok (.enter g ys) w) (hp : ∀ x cs w, x ∈ l → Ext w0 w → RInt w cs x → CV Tryz.prog g (.int .i64 x :: cl).toArray w (.bool (p x))) : CV Tryz.prog 68 #[v, .func (.func g) #[] cl.toArray] w0 (.bool (l.any p)) := by
 refine enter Tryz.func68 rfl Tryz.ntmps68 rfl ?_
 have hS := St.start w0
 refine seq ?_
 refine region ?_
 refine sv (yAsg rfl) ?_
 refine nil ?_
 show Code.wp _ _ _ _ _
 refine seq ?_
 refine region ?_
 refine sv (yMove rfl) ?_
 refine sv (yMove rfl) ?_
 refine scall Tryz.call93 (.cons rfl (.cons rfl .nil)) (c_IndexFuncInt hsl hcall hp) ?_
 rintro _ w ⟨rfl, hE⟩; replace hS := hS.step hE; clear hE
 refine sv (yGeq rfl rfl) ?_
 refine sv (yAsg rfl) ?_
 refine nil ?_
 show Code.wp _ _ _ _ _
 refine wp_ret ?_
 exact retV (res1 rfl (by rw [← idxF_any p l 0 (Int.le_refl 0)]; rfl)) hS.ext
/-- barrage/gate.dry -/
theorem c_dry {a : Int} {w0 : World} : CV Tryz.prog 47 #[.int .i64 a] w0 (.bool (dryB a)) := by
 refine enter Tryz.func47 rfl Tryz.ntmps47 rfl ?_
 have hS := St.start w0
 refine seq ?_
 refine region ?_
 refine sv (yAsg rfl) ?_
 refine nil ?_
 show Code.wp _ _ _ _ _
 refine seq ?_
 refine region ?_
 refine sv (yMove rfl) ?_
 refine scall Tryz.call43 (.cons rfl (.cons rfl (.cons rfl .nil))) c_out ?_
 rintro _ w ⟨rfl, hE⟩; replace hS := hS.step hE; clear hE
 refine sv (yAsg rfl) ?_
 refine nil ?_
 show Code.wp _ _ _ _ _
 refine wp_ret ?_
 exact retV (res1 rfl rfl) hS.ext
/-- barrage/gate.beyond closure 1 -/
theorem c_bey1 {a m : Int} {b : Nat} {T : TypeId} {w0 : World} (hb : w0.heap[b]? = some (.cells [.int .i64 m].toArray T (0, 0))) : CV Tryz.prog 69 #[.int .i64 a, .pointer (some ⟨b, 0, none⟩)] w0 (.bool (outB a 0 m)) := by
 refine enter Tryz.func69 rfl Tryz.ntmps69 rfl ?_
 have hS := St.start w0
 refine seq ?_
 refine region ?_
 refine sv (yAsg rfl) ?_
 refine nil ?_
 show Code.wp _ _ _ _ _
 refine seq ?_
 refine region ?_
 refine sv (yMove rfl) ?_
 refine sv (yLdB rfl Tryz.isAgg3 (hS.ext.get hb) rfl) ?_
 refine scall Tryz.call43 (.cons rfl (.cons rfl (.cons rfl .nil))) c_out ?_
 rintro _ w ⟨rfl, hE⟩; replace hS := hS.step hE; clear hE
 refine sv (yAsg rfl) ?_
 refine nil ?_
 show Code.wp _ _ _ _ _
 refine wp_ret ?_
 exact retV (res1 rfl rfl) hS.ext
/-- barrage/gate.beyond -/
theorem c_bey {m : Int} {l : List Int} {v : Value} {w0 : World} (hsl : Sl w0 1 RInt v l) : CV Tryz.prog 49 #[.int .i64 m, v] w0 (.bool (beyB m l)) := by
 refine enter Tryz.func49 rfl Tryz.ntmps49 rfl ?_
 have hS := St.start w0
 refine seq ?_
 refine region ?_
 refine sbox hS rfl rfl ?_; clear hS; intro b2 w hS
 refine sv (yAsg rfl) ?_
 refine nil ?_
 show Code.wp _ _ _ _ _
 refine seq ?_
 refine region ?_
 refine sv (yMove rfl) ?_
 refine sv (yFn (.cons rfl .nil)) ?_
 refine scall Tryz.call68 (.cons rfl (.cons rfl .nil)) (c_ContainsFuncInt (p := fun c => outB c 0 m) (cl := [.pointer (some ⟨b2, 0, none⟩)]) (hsl.ext RInt.stays hS.ext) Tryz.call69 (fun c cs w _ e _ => c_bey1 (e.get (hS.at b2)))) ?_
 rintro _ w ⟨rfl, hE⟩; replace hS := hS.step hE; clear hE
 refine sv (yAsg rfl) ?_
 refine nil ?_
 show Code.wp _ _ _ _ _
 refine wp_ret ?_
 exact retV (res1 rfl rfl) hS.ext
/-- barrage/gate.first -/
theorem c_first {rs : List Rule} {b : Nat} {T : TypeId} {w0 : World} (hb : w0.heap[b]? = some (.cells (rs.flatMap rcells).toArray T (0, 0))) (hR : RulesOk Tryz.prog w0 rs) (hl : rs.length ≤ 1000) {e : Int} (he : firstE rs = e) : CV Tryz.prog 39 #[.slice (some ⟨b, 0, none⟩) rs.length rs.length] w0 (.int .i64 e) := by
 refine enter Tryz.func39 rfl Tryz.ntmps39 rfl ?_
 have hS := St.start w0
 refine seq ?_
 refine region ?_
 refine sv (yAsg rfl) ?_
 refine nil ?_
 show Code.wp _ _ _ _ _
 refine seq ?_
 refine seq ?_
 refine region ?_
 refine sv (yMove rfl) ?_
 refine sv (yLen rfl Tryz.underlying137) ?_
 refine sv (yMove rfl) ?_
 refine nil ?_
 show Code.wp _ _ _ _ _
 refine block ?_
 refine loop (fun f w zz => ∃ (k : Nat), f 5 = .slice (some ⟨b, 0, none⟩) rs.length rs.length ∧ f 6 = .int .i64 (rs.length : Int) ∧ f 7 = .int .i64 (k : Int) ∧ StX [] w0 w [] ∧ (k ≤ rs.length) ∧ (RulesOk Tryz.prog w0 (rs.drop k)) ∧ (e = firstE (rs.drop k)) ∧ zz = rs.length - k) _ ⟨_, rfl, 0, rfl, rfl, rfl, hS, (Nat.zero_le _), (hR), (he.symm), rfl⟩ ?_
 clear hS
 rintro f w _ ⟨k, h5, h6, h7, hS, hk, hR, hE, rfl⟩
 refine seq ?_
 refine region ?_
 refine sv (yLss h7 h6) ?_
 refine nil ?_
 show Code.wp _ _ _ _ _
 refine seq ?_
 refine cond rfl (fun c8 => ?_) (fun c8 => ?_)
 ·
  simp only [BS, ne_eq] at c8
  refine skip ?_
  show Code.wp _ _ _ _ _
  refine seq ?_
  refine block ?_
  refine seq ?_
  refine region ?_
  obtain ⟨r, hr, hd⟩ := drop_of (l := rs) (k := k) (by omega)
  rw [hd] at hR
  obtain ⟨hcall, hv, hn⟩ := hR
  refine sv (yIx h5 h7 Tryz.runUnderlying137 Tryz.sizeOf117 (by omega) (by omega)) ?_
  refine sv (yLdA rfl Tryz.isAgg117 Tryz.sizeOf117 ((flat_cells rcells_len (blk_cells hb) hr).ext hS.ext) rfl) ?_
  refine salloc hS Tryz.zeroValue117 rfl ?_; clear hS; intro b4 w hS
  refine sst hS rfl rfl Tryz.sizeOf117 rfl rfl rfl rfl ?_; clear hS; intro w hS
  refine nil ?_
  show Code.wp _ _ _ _ _
  refine seq ?_
  refine region ?_
  refine sv (fa117_0 rfl) ?_
  refine sv (yLdB rfl Tryz.isAgg42 (hS.at _) rfl) ?_
  refine scallf rfl hcall .nil (hv _ hS.ext) ?_
  rintro _ w ⟨rfl, hE⟩; replace hS := hS.step hE; clear hE
  refine nil ?_
  show Code.wp _ _ _ _ _
  refine cond rfl (fun c13 => ?_) (fun c13 => ?_)
  ·
   refine seq ?_
   refine region ?_
   refine sv (fa117_1 rfl) ?_
   refine sv (yLdB rfl Tryz.isAgg36 (hS.at _) rfl) ?_
   refine sv (yAsg rfl) ?_
   refine nil ?_
   show Code.wp _ _ _ _ _
   refine wp_ret (blockR (thenR (thenR (blockR (thenR ?_)))))
   exact retV (res1 rfl (by rw [hE, hd, firstE, if_pos c13]; rfl)) hS.ext
  ·
   refine skip ?_
   show Code.wp _ _ _ _ _
   refine region ?_
   refine sv (yAdd h7 rfl ⟨by omega, by omega⟩) ?_
   refine sv (yMove rfl) ?_
   refine nil ?_
   exact ⟨_, _, rfl, ⟨k + 1, h5, h6, rfl, (hS.sub (List.nil_sublist _)), (by omega), (hn c13), (by rw [hE, hd, firstE, if_neg (by simp [c13])]), rfl⟩, by omega⟩
 ·
  simp only [BS, ne_eq] at c8
  refine exit ?_
  show Code.wp _ _ _ _ _
  refine seq ?_
  refine region ?_
  refine sv (yAsg rfl) ?_
  refine nil ?_
  show Code.wp _ _ _ _ _
  obtain rfl : k = rs.length := by omega
  refine wp_ret ?_
  exact retV (res1 rfl (by rw [hE, List.drop_length]; rfl)) hS.ext
/-- barrage/gate.force -/
theorem c_force {k a : Int} {w0 : World} : CV Tryz.prog 45 #[.int .i64 k, .int .i64 a] w0 (.int .i64 (frcE k a)) := by
 refine enter Tryz.func45 rfl Tryz.ntmps45 rfl ?_
 have hS := St.start w0
 refine seq ?_
 refine region ?_
 refine sv (yAsg rfl) ?_
 refine nil ?_
 show Code.wp _ _ _ _ _
 refine seq ?_
 refine block ?_
 refine seq ?_
 refine region ?_
 refine sv (yMove rfl) ?_
 refine scall Tryz.call43 (.cons rfl (.cons rfl (.cons rfl .nil))) c_out ?_
 rintro _ w ⟨rfl, hE⟩; replace hS := hS.step hE; clear hE
 refine sv (yAsg rfl) ?_
 refine nil ?_
 show Code.wp _ _ _ _ _
 refine cond rfl (fun c5 => ?_) (fun c5 => ?_)
 ·
  refine seq ?_
  refine region ?_
  refine sv (yAsg rfl) ?_
  refine nil ?_
  show Code.wp _ _ _ _ _
  refine wp_ret (blockR (thenR ?_))
  exact retV (res1 rfl (eqI (by unfold frcE; rw [if_pos c5]))) hS.ext
 ·
  refine seq ?_
  refine region ?_
  refine sv (yMove rfl) ?_
  refine sv (yNeq rfl rfl) ?_
  refine sv (yMove rfl) ?_
  refine sg rfl rfl rfl (fun g => (yMove rfl)) (fun v12 g12 => ?_)
  refine sg rfl rfl rfl (fun g => (yEql (g12.1 g) rfl)) (fun v13 g13 => ?_)
  refine sv (yAnd rfl (fun hB => (g13.1 hB)) rfl) ?_
  refine sv (yMove rfl) ?_
  refine sg rfl rfl rfl (fun g => (yMove rfl)) (fun v16 g16 => ?_)
  refine sg rfl rfl rfl (fun g => (yLss (g16.1 g) rfl)) (fun v17 g17 => ?_)
  refine sg rfl rfl rfl (fun g => (yMove (g17.1 g))) (fun v18 g18 => ?_)
  refine sgg rfl rfl g18 (fun g => (yMove rfl)) (fun v19 g19 => ?_)
  refine sgg rfl rfl g18 (fun g => (yEql (g19.1 g) rfl)) (fun v20 g20 => ?_)
  refine sg rfl rfl rfl (fun g => (yAnd (g18.1 g) (fun hB => (g20.1 ⟨g, hB⟩)) rfl)) (fun v21 g21 => ?_)
  refine sv (yOr rfl rfl (fun hB => (g21.1 hB))) ?_
  refine sv (yMove rfl) ?_
  refine sg rfl rfl rfl (fun g => (yMove rfl)) (fun v24 g24 => ?_)
  refine sg rfl rfl rfl (fun g => (yGtr (g24.1 g) rfl)) (fun v25 g25 => ?_)
  refine sg rfl rfl rfl (fun g => (yMove (g25.1 g))) (fun v26 g26 => ?_)
  refine sgg rfl rfl g26 (fun g => (yMove rfl)) (fun v27 g27 => ?_)
  refine sgg rfl rfl g26 (fun g => (yEql (g27.1 g) rfl)) (fun v28 g28 => ?_)
  refine sg rfl rfl rfl (fun g => (yAnd (g26.1 g) (fun hB => (g28.1 ⟨g, hB⟩)) rfl)) (fun v29 g29 => ?_)
  refine sv (yOr rfl rfl (fun hB => (g29.1 hB))) ?_
  refine sv (yAsg rfl) ?_
  refine nil ?_
  show Code.wp _ _ _ _ _
  refine cond rfl (fun c8 => ?_) (fun c8 => ?_)
  ·
   refine seq ?_
   refine region ?_
   refine sv (yAsg rfl) ?_
   refine nil ?_
   show Code.wp _ _ _ _ _
   refine wp_ret (blockR (thenR ?_))
   exact retV (res1 rfl (eqI (by unfold frcE; rw [if_neg (by rw [c5]; decide), if_pos c8]))) hS.ext
  ·
   refine skip ?_
   show Code.wp _ _ _ _ _
   refine seq ?_
   refine region ?_
   refine sv (yAsg rfl) ?_
   refine nil ?_
   show Code.wp _ _ _ _ _
   refine wp_ret ?_
   exact retV (res1 rfl (eqI (by unfold frcE; rw [if_neg (by rw [c5]; decide), if_neg (by rw [c8]; decide)]))) hS.ext
/-- barrage/gate.sensor -/
theorem c_sensor {s : Sen} {w0 : World} (h1 : I64 s.pl) (h2 : I64 s.tol) : CV Tryz.prog 53 #[.agg (senC s).toArray] w0 (.int .i64 (senE s)) := by
 refine enter Tryz.func53 rfl Tryz.ntmps53 rfl ?_
 have hS := St.start w0
 refine seq ?_
 refine region ?_
 refine sbox hS rfl rfl ?_; clear hS; intro b1 w hS
 refine sv (yAsg rfl) ?_
 refine nil ?_
 show Code.wp _ _ _ _ _
 refine seq ?_
 refine block ?_
 refine seq ?_
 refine region ?_
 refine sv (fa121_0 rfl) ?_
 refine sv (yLdB rfl Tryz.isAgg3 (hS.at _) rfl) ?_
 refine sv (yNeq rfl rfl) ?_
 refine sv (yMove rfl) ?_
 refine sg rfl rfl rfl (fun g => (fa121_0 rfl)) (fun v8 g8 => ?_)
 refine sg rfl rfl rfl (fun g => (yLdB (g8.1 g) Tryz.isAgg3 (hS.at _) rfl)) (fun v9 g9 => ?_)
 refine sg rfl rfl rfl (fun g => (yNeq (g9.1 g) rfl)) (fun v10 g10 => ?_)
 refine sg rfl rfl rfl (fun g => (yMove (g10.1 g))) (fun v11 g11 => ?_)
 refine sgg rfl rfl g11 (fun g => (fa121_1 rfl)) (fun v12 g12 => ?_)
 refine sgg rfl rfl g11 (fun g => (yLdB (g12.1 g) Tryz.isAgg3 (hS.at _) rfl)) (fun v13 g13 => ?_)
 refine sgg rfl rfl g11 (fun g => (yNeq (g13.1 g) rfl)) (fun v14 g14 => ?_)
 refine sg rfl rfl rfl (fun g => (yOr (g11.1 g) rfl (fun hB => (g14.1 ⟨g, hB⟩)))) (fun v15 g15 => ?_)
 refine sv (yAnd rfl (fun hB => (g15.1 hB)) rfl) ?_
 refine sv (yAsg rfl) ?_
 refine nil ?_
 show Code.wp _ _ _ _ _
 refine cond rfl (fun c3 => ?_) (fun c3 => ?_)
 ·
  refine seq ?_
  refine region ?_
  refine sv (yAsg rfl) ?_
  refine nil ?_
  show Code.wp _ _ _ _ _
  refine wp_ret (blockR (thenR ?_))
  exact retV (res1 rfl (eqI (by unfold senE; rw [if_pos c3]))) hS.ext
 ·
  refine seq ?_
  refine region ?_
  refine sv (fa121_1 rfl) ?_
  refine sv (yLdB rfl Tryz.isAgg3 (hS.at _) rfl) ?_
  refine sv (fa121_2 rfl) ?_
  refine sv (yLdB rfl Tryz.isAgg3 (hS.at _) rfl) ?_
  refine sbslice hS Tryz.underlying26 Tryz.sizeOf3 rfl Tryz.zeroValue3 rfl (.cons rfl rfl (.cons rfl rfl .nil)) rfl ?_; clear hS; intro b22 w hS
  refine scall Tryz.call49 (.cons rfl (.cons rfl .nil)) (c_bey (ints_sl (l := [s.pl, s.tol]) (hS.at b22) (by intro x hx; simp only [List.mem_cons, List.not_mem_nil, or_false] at hx; (rcases hx with rfl | rfl) <;> assumption) (by simp))) ?_
  rintro _ w ⟨rfl, hE⟩; replace hS := hS.step hE; clear hE
  refine sv (yAsg rfl) ?_
  refine nil ?_
  show Code.wp _ _ _ _ _
  refine cond rfl (fun c17 => ?_) (fun c17 => ?_)
  ·
   refine seq ?_
   refine region ?_
   refine sv (yAsg rfl) ?_
   refine nil ?_
   show Code.wp _ _ _ _ _
   refine wp_ret (blockR (thenR ?_))
   exact retV (res1 rfl (eqI (by unfold senE; rw [if_neg (by rw [c3]; decide), if_pos c17]))) hS.ext
  ·
   refine skip ?_
   show Code.wp _ _ _ _ _
   refine seq ?_
   refine region ?_
   refine sv (yAsg rfl) ?_
   refine nil ?_
   show Code.wp _ _ _ _ _
   refine wp_ret ?_
   exact retV (res1 rfl (eqI (by unfold senE; rw [if_neg (by rw [c3]; decide), if_neg (by rw [c17]; decide)]))) hS.ext
/-- barrage/gate.Check closure 1 -/
theorem c_Check1 {g : Gat} {qo qs : Value} {b : Nat} {T : TypeId} {w0 : World} (hb : w0.heap[b]? = some (.cells (gatL g qo qs).toArray T (0, 0))) (hs : g.name.size ≤ 9223372036854775807) : CV Tryz.prog 40 #[.pointer (some ⟨b, 0, none⟩)] w0 (.bool (!isName g.name)) := by
 refine enter Tryz.func40 rfl Tryz.ntmps40 rfl ?_
 have hS := St.start w0
 refine seq ?_
 refine region ?_
 refine sv (yAsg rfl) ?_
 refine nil ?_
 show Code.wp _ _ _ _ _
 refine seq ?_
 refine region ?_
 refine sv (fa29_0 rfl) ?_
 refine sv (yLdB rfl Tryz.isAgg9 (hS.ext.get hb) rfl) ?_
 refine scall Tryz.call41 (.cons rfl .nil) (c_Name hs) ?_
 rintro _ w ⟨rfl, hE⟩; replace hS := hS.step hE; clear hE
 refine sv (yNot rfl) ?_
 refine sv (yAsg rfl) ?_
 refine nil ?_
 show Code.wp _ _ _ _ _
 refine wp_ret ?_
 exact retV (res1 rfl rfl) hS.ext
/-- barrage/gate.Check closure 2 -/
theorem c_Check2 {g : Gat} {qo qs : Value} {b : Nat} {T : TypeId} {w0 : World} (hb : w0.heap[b]? = some (.cells (gatL g qo qs).toArray T (0, 0))) : CV Tryz.prog 42 #[.pointer (some ⟨b, 0, none⟩)] w0 (.bool (outB g.kind 1 3)) := by
 refine enter Tryz.func42 rfl Tryz.ntmps42 rfl ?_
 have hS := St.start w0
 refine seq ?_
 refine region ?_
 refine sv (yAsg rfl) ?_
 refine nil ?_
 show Code.wp _ _ _ _ _
 refine seq ?_
 refine region ?_
 refine sv (fa29_1 rfl) ?_
 refine sv (yLdB rfl Tryz.isAgg3 (hS.ext.get hb) rfl) ?_
 refine scall Tryz.call43 (.cons rfl (.cons rfl (.cons rfl .nil))) c_out ?_
 rintro _ w ⟨rfl, hE⟩; replace hS := hS.step hE; clear hE
 refine sv (yAsg rfl) ?_
 refine nil ?_
 show Code.wp _ _ _ _ _
 refine wp_ret ?_
 exact retV (res1 rfl rfl) hS.ext
/-- barrage/gate.Check closure 3 -/
theorem c_Check3 {g : Gat} {qo qs : Value} {b : Nat} {T : TypeId} {w0 : World} (hb : w0.heap[b]? = some (.cells (gatL g qo qs).toArray T (0, 0))) : CV Tryz.prog 44 #[.pointer (some ⟨b, 0, none⟩)] w0 (.bool (outB g.travel 1 5000)) := by
 refine enter Tryz.func44 rfl Tryz.ntmps44 rfl ?_
 have hS := St.start w0
 refine seq ?_
 refine region ?_
 refine sv (yAsg rfl) ?_
 refine nil ?_
 show Code.wp _ _ _ _ _
 refine seq ?_
 refine region ?_
 refine sv (fa29_2 rfl) ?_
 refine sv (yLdB rfl Tryz.isAgg3 (hS.ext.get hb) rfl) ?_
 refine scall Tryz.call43 (.cons rfl (.cons rfl (.cons rfl .nil))) c_out ?_
 rintro _ w ⟨rfl, hE⟩; replace hS := hS.step hE; clear hE
 refine sv (yAsg rfl) ?_
 refine nil ?_
 show Code.wp _ _ _ _ _
 refine wp_ret ?_
 exact retV (res1 rfl rfl) hS.ext
/-- barrage/gate.Check closure 4 -/
theorem c_Check4 {g : Gat} {qo qs : Value} {b : Nat} {T : TypeId} {w0 : World} (hb : w0.heap[b]? = some (.cells (gatL g qo qs).toArray T (0, 0))) : CV Tryz.prog 46 #[.pointer (some ⟨b, 0, none⟩)] w0 (.bool (gb1 g)) := by
 refine enter Tryz.func46 rfl Tryz.ntmps46 rfl ?_
 have hS := St.start w0
 refine seq ?_
 refine region ?_
 refine sv (yAsg rfl) ?_
 refine nil ?_
 show Code.wp _ _ _ _ _
 refine seq ?_
 refine region ?_
 refine sv (fa29_4 rfl) ?_
 refine sv (yLdB rfl Tryz.isAgg3 (hS.ext.get hb) rfl) ?_
 refine scall Tryz.call47 (.cons rfl .nil) c_dry ?_
 rintro _ w ⟨rfl, hE⟩; replace hS := hS.step hE; clear hE
 refine sv (yMove rfl) ?_
 refine sg rfl rfl rfl (fun g => (fa29_5 rfl)) (fun v6 g6 => ?_)
 refine sg rfl rfl rfl (fun g => (yLdB (g6.1 g) Tryz.isAgg3 (hS.ext.get hb) rfl)) (fun v7 g7 => ?_)
 refine sgc hS rfl rfl rfl Tryz.call47 (fun g => (.cons (g7.1 g) .nil)) (fun g => c_dry) ?_; clear hS; intro v8 w hS g8
 refine sv (yOr rfl rfl (fun hB => (g8.1 hB))) ?_
 refine sv (yMove rfl) ?_
 refine sg rfl rfl rfl (fun g => (fa29_6 rfl)) (fun v11 g11 => ?_)
 refine sg rfl rfl rfl (fun g => (yLdB (g11.1 g) Tryz.isAgg3 (hS.ext.get hb) rfl)) (fun v12 g12 => ?_)
 refine sgc hS rfl rfl rfl Tryz.call43 (fun g => (.cons (g12.1 g) (.cons rfl (.cons rfl .nil)))) (fun g => c_out) ?_; clear hS; intro v13 w hS g13
 refine sv (yOr rfl rfl (fun hB => (g13.1 hB))) ?_
 refine sv (yAsg rfl) ?_
 refine nil ?_
 show Code.wp _ _ _ _ _
 refine wp_ret ?_
 exact retV (res1 rfl rfl) hS.ext
/-- barrage/gate.Check closure 5 -/
theorem c_Check5 {g : Gat} {qo qs : Value} {b : Nat} {T : TypeId} {w0 : World} (hb : w0.heap[b]? = some (.cells (gatL g qo qs).toArray T (0, 0))) (h1 : I64 g.float) (h2 : I64 g.slide) : CV Tryz.prog 48 #[.pointer (some ⟨b, 0, none⟩)] w0 (.bool (gb2 g)) := by
 refine enter Tryz.func48 rfl Tryz.ntmps48 rfl ?_
 have hS := St.start w0
 refine seq ?_
 refine region ?_
 refine sv (yAsg rfl) ?_
 refine nil ?_
 show Code.wp _ _ _ _ _
 refine seq ?_
 refine region ?_
 refine sv (fa29_7 rfl) ?_
 refine sv (yLdB rfl Tryz.isAgg3 (hS.ext.get hb) rfl) ?_
 refine sv (fa29_9 rfl) ?_
 refine sv (yLdB rfl Tryz.isAgg3 (hS.ext.get hb) rfl) ?_
 refine sbslice hS Tryz.underlying26 Tryz.sizeOf3 rfl Tryz.zeroValue3 rfl (.cons rfl rfl (.cons rfl rfl .nil)) rfl ?_; clear hS; intro b6 w hS
 refine scall Tryz.call49 (.cons rfl (.cons rfl .nil)) (c_bey (ints_sl (l := [g.float, g.slide]) (hS.at b6) (by intro x hx; simp only [List.mem_cons, List.not_mem_nil, or_false] at hx; (rcases hx with rfl | rfl) <;> assumption) (by simp))) ?_
 rintro _ w ⟨rfl, hE⟩; replace hS := hS.step hE; clear hE
 refine sv (yMove rfl) ?_
 refine sg rfl rfl rfl (fun g => (fa29_8 rfl)) (fun v9 g9 => ?_)
 refine sg rfl rfl rfl (fun g => (yLdB (g9.1 g) Tryz.isAgg3 (hS.ext.get hb) rfl)) (fun v10 g10 => ?_)
 refine sgc hS rfl rfl rfl Tryz.call43 (fun g => (.cons (g10.1 g) (.cons rfl (.cons rfl .nil)))) (fun g => c_out) ?_; clear hS; intro v11 w hS g11
 refine sv (yOr rfl rfl (fun hB => (g11.1 hB))) ?_
 refine sv (yAsg rfl) ?_
 refine nil ?_
 show Code.wp _ _ _ _ _
 refine wp_ret ?_
 exact retV (res1 rfl rfl) hS.ext
/-- barrage/gate.Check closure 6 -/
theorem c_Check6 {g : Gat} {qo qs : Value} {b : Nat} {T : TypeId} {w0 : World} (hb : w0.heap[b]? = some (.cells (gatL g qo qs).toArray T (0, 0))) (h1 : I64 g.sfr) (h2 : I64 g.drive) (h3 : I64 g.brake) : CV Tryz.prog 50 #[.pointer (some ⟨b, 0, none⟩)] w0 (.bool (gb3 g)) := by
 refine enter Tryz.func50 rfl Tryz.ntmps50 rfl ?_
 have hS := St.start w0
 refine seq ?_
 refine region ?_
 refine sv (yAsg rfl) ?_
 refine nil ?_
 show Code.wp _ _ _ _ _
 refine seq ?_
 refine region ?_
 refine sv (fa29_10 rfl) ?_
 refine sv (yLdB rfl Tryz.isAgg3 (hS.ext.get hb) rfl) ?_
 refine sv (fa29_11 rfl) ?_
 refine sv (yLdB rfl Tryz.isAgg3 (hS.ext.get hb) rfl) ?_
 refine sv (fa29_12 rfl) ?_
 refine sv (yLdB rfl Tryz.isAgg3 (hS.ext.get hb) rfl) ?_
 refine sbslice hS Tryz.underlying26 Tryz.sizeOf3 rfl Tryz.zeroValue3 rfl (.cons rfl rfl (.cons rfl rfl (.cons rfl rfl .nil))) rfl ?_; clear hS; intro b8 w hS
 refine scall Tryz.call49 (.cons rfl (.cons rfl .nil)) (c_bey (ints_sl (l := [g.sfr, g.drive, g.brake]) (hS.at b8) (by intro x hx; simp only [List.mem_cons, List.not_mem_nil, or_false] at hx; (rcases hx with rfl | rfl | rfl) <;> assumption) (by simp))) ?_
 rintro _ w ⟨rfl, hE⟩; replace hS := hS.step hE; clear hE
 refine sv (yAsg rfl) ?_
 refine nil ?_
 show Code.wp _ _ _ _ _
 refine wp_ret ?_
 exact retV (res1 rfl rfl) hS.ext
/-- barrage/gate.Check closure 7 -/
theorem c_Check7 {g : Gat} {qo qs : Value} {b : Nat} {T : TypeId} {w0 : World} (hb : w0.heap[b]? = some (.cells (gatL g qo qs).toArray T (0, 0))) : CV Tryz.prog 51 #[.pointer (some ⟨b, 0, none⟩)] w0 (.bool (gb4 g)) := by
 refine enter Tryz.func51 rfl Tryz.ntmps51 rfl ?_
 have hS := St.start w0
 refine seq ?_
 refine region ?_
 refine sv (yAsg rfl) ?_
 refine nil ?_
 show Code.wp _ _ _ _ _
 refine seq ?_
 refine region ?_
 refine sv (fa29_13 rfl) ?_
 refine sv (yLdB rfl Tryz.isAgg3 (hS.ext.get hb) rfl) ?_
 refine scall Tryz.call43 (.cons rfl (.cons rfl (.cons rfl .nil))) c_out ?_
 rintro _ w ⟨rfl, hE⟩; replace hS := hS.step hE; clear hE
 refine sv (yMove rfl) ?_
 refine sg rfl rfl rfl (fun g => (fa29_14 rfl)) (fun v6 g6 => ?_)
 refine sg rfl rfl rfl (fun g => (yLdB (g6.1 g) Tryz.isAgg3 (hS.ext.get hb) rfl)) (fun v7 g7 => ?_)
 refine sgc hS rfl rfl rfl Tryz.call43 (fun g => (.cons (g7.1 g) (.cons rfl (.cons rfl .nil)))) (fun g => c_out) ?_; clear hS; intro v8 w hS g8
 refine sv (yOr rfl rfl (fun hB => (g8.1 hB))) ?_
 refine sv (yAsg rfl) ?_
 refine nil ?_
 show Code.wp _ _ _ _ _
 refine wp_ret ?_
 exact retV (res1 rfl rfl) hS.ext
/-- barrage/gate.Check closure 8 -/
theorem c_Check8 {g : Gat} {qo qs : Value} {b : Nat} {T : TypeId} {w0 : World} (hb : w0.heap[b]? = some (.cells (gatL g qo qs).toArray T (0, 0))) (h1 : I64 g.use) (h2 : I64 g.pump) (h3 : I64 g.room) (h4 : I64 g.slack) (ht : 1 ≤ g.travel ∧ g.travel ≤ 5000) : CV Tryz.prog 52 #[.pointer (some ⟨b, 0, none⟩)] w0 (.bool (gb5 g)) := by
 refine enter Tryz.func52 rfl Tryz.ntmps52 rfl ?_
 have hS := St.start w0
 refine seq ?_
 refine region ?_
 refine sv (yAsg rfl) ?_
 refine nil ?_
 show Code.wp _ _ _ _ _
 refine seq ?_
 rcases hq : beyB 100000 [g.use, g.pump, g.room] with _ | _
 ·
  refine region ?_
  refine sv (fa29_15 rfl) ?_
  refine sv (yLdB rfl Tryz.isAgg3 (hS.ext.get hb) rfl) ?_
  refine sv (fa29_16 rfl) ?_
  refine sv (yLdB rfl Tryz.isAgg3 (hS.ext.get hb) rfl) ?_
  refine sv (fa29_17 rfl) ?_
  refine sv (yLdB rfl Tryz.isAgg3 (hS.ext.get hb) rfl) ?_
  refine sbslice hS Tryz.underlying26 Tryz.sizeOf3 rfl Tryz.zeroValue3 rfl (.cons rfl rfl (.cons rfl rfl (.cons rfl rfl .nil))) rfl ?_; clear hS; intro b8 w hS
  refine scall Tryz.call49 (.cons rfl (.cons rfl .nil)) (c_bey (ints_sl (l := [g.use, g.pump, g.room]) (hS.at b8) (by intro x hx; simp only [List.mem_cons, List.not_mem_nil, or_false] at hx; (rcases hx with rfl | rfl | rfl) <;> assumption) (by simp))) ?_
  rintro _ w ⟨rfl, hE⟩; replace hS := hS.step hE; clear hE
  refine sv (yMove rfl) ?_
  refine ungo rfl rfl (congrArg Value.bool hq) ?_
  refine sv (fa29_2 rfl) ?_
  refine ungo rfl rfl (congrArg Value.bool hq) ?_
  refine sv (yLdB rfl Tryz.isAgg3 (hS.ext.get hb) rfl) ?_
  refine ungo rfl rfl (congrArg Value.bool hq) ?_
  refine sv (ySub rfl rfl ⟨by omega, by omega⟩) ?_
  refine ungo rfl rfl (congrArg Value.bool hq) ?_
  refine sv (yQuoP rfl rfl ⟨by omega, by omega⟩ (by omega)) ?_
  refine ungo rfl rfl (congrArg Value.bool hq) ?_
  refine sv (fa29_18 rfl) ?_
  refine ungo rfl rfl (congrArg Value.bool hq) ?_
  refine sv (yLdB rfl Tryz.isAgg3 (hS.ext.get hb) rfl) ?_
  refine ungo rfl rfl (congrArg Value.bool hq) ?_
  refine sbslice hS Tryz.underlying26 Tryz.sizeOf3 rfl Tryz.zeroValue3 rfl (.cons rfl rfl .nil) rfl ?_; clear hS; intro b17 w hS
  refine ungo rfl rfl (congrArg Value.bool hq) ?_
  refine scall Tryz.call49 (.cons rfl (.cons rfl .nil)) (c_bey (ints_sl (l := [g.slack]) (hS.at b17) (by intro x hx; simp only [List.mem_cons, List.not_mem_nil, or_false] at hx; (rcases hx with rfl) <;> assumption) (by simp))) ?_
  rintro _ w ⟨rfl, hE⟩; replace hS := hS.step hE; clear hE
  refine sv (yOr rfl rfl (fun _ => rfl)) ?_
  refine sv (yAsg rfl) ?_
  refine nil ?_
  show Code.wp _ _ _ _ _
  refine wp_ret ?_
  exact retV (res1 rfl rfl) hS.ext
 ·
  refine region ?_
  refine sv (fa29_15 rfl) ?_
  refine sv (yLdB rfl Tryz.isAgg3 (hS.ext.get hb) rfl) ?_
  refine sv (fa29_16 rfl) ?_
  refine sv (yLdB rfl Tryz.isAgg3 (hS.ext.get hb) rfl) ?_
  refine sv (fa29_17 rfl) ?_
  refine sv (yLdB rfl Tryz.isAgg3 (hS.ext.get hb) rfl) ?_
  refine sbslice hS Tryz.underlying26 Tryz.sizeOf3 rfl Tryz.zeroValue3 rfl (.cons rfl rfl (.cons rfl rfl (.cons rfl rfl .nil))) rfl ?_; clear hS; intro b8 w hS
  refine scall Tryz.call49 (.cons rfl (.cons rfl .nil)) (c_bey (ints_sl (l := [g.use, g.pump, g.room]) (hS.at b8) (by intro x hx; simp only [List.mem_cons, List.not_mem_nil, or_false] at hx; (rcases hx with rfl | rfl | rfl) <;> assumption) (by simp))) ?_
  rintro _ w ⟨rfl, hE⟩; replace hS := hS.step hE; clear hE
  refine sv (yMove rfl) ?_
  refine ungn (v := .bool (beyB 100000 [g.use, g.pump, g.room])) rfl rfl rfl (by rw [hq]; simp) ?_
  refine ungn (v := .bool (beyB 100000 [g.use, g.pump, g.room])) rfl rfl rfl (by rw [hq]; simp) ?_
  refine ungn (v := .bool (beyB 100000 [g.use, g.pump, g.room])) rfl rfl rfl (by rw [hq]; simp) ?_
  refine ungn (v := .bool (beyB 100000 [g.use, g.pump, g.room])) rfl rfl rfl (by rw [hq]; simp) ?_
  refine ungn (v := .bool (beyB 100000 [g.use, g.pump, g.room])) rfl rfl rfl (by rw [hq]; simp) ?_
  refine ungn (v := .bool (beyB 100000 [g.use, g.pump, g.room])) rfl rfl rfl (by rw [hq]; simp) ?_
  refine ungn (v := .bool (beyB 100000 [g.use, g.pump, g.room])) rfl rfl rfl (by rw [hq]; simp) ?_
  refine ungn (v := .bool (beyB 100000 [g.use, g.pump, g.room])) rfl rfl rfl (by rw [hq]; simp) ?_
  refine sv (yPick (B := true) (rfl.trans (congrArg Value.bool hq)) (fun _ => rfl) (fun h => nomatch h)) ?_
  refine sv (yAsg rfl) ?_
  refine nil ?_
  show Code.wp _ _ _ _ _
  refine wp_ret ?_
  exact retV (res1 rfl (eqB (by unfold gb5; rw [hq]; rfl))) hS.ext
/-- barrage/gate.Check -/
theorem c_Check {g : Gat} {qo qs : Value} {w0 : World} (h : RGatP w0 g qo qs) : CE Tryz.prog 23 #[.agg (gatL g qo qs).toArray] w0 (fun u w' => ∃ a b, u = .tuple #[.int .i64 a, .int .i64 b, .int .i64 (chkG g)] ∧ Ext w0 w') := by
 obtain ⟨ao, co, rfl, -⟩ := id h.own
 obtain ⟨az, cz, rfl, -⟩ := id h.sens
 obtain ⟨i1, i2, i3, i4, i5, i6, i7, i8, i9, i10⟩ := h.i64
 refine enter Tryz.func23 rfl Tryz.ntmps23 rfl ?_
 have hS := St.start w0
 refine seq ?_
 refine region ?_
 refine sbox hS rfl rfl ?_; clear hS; intro b1 w hS
 refine sv (yAsg rfl) ?_
 refine sv (yAsg rfl) ?_
 refine sv (yAsg rfl) ?_
 refine nil ?_
 show Code.wp _ _ _ _ _
 refine seq ?_
 refine region ?_
 refine sv (yFn (.cons rfl .nil)) ?_
 refine sv (yBuild Tryz.zeroValue117 rfl pl117 (.cons rfl rfl (.cons rfl rfl .nil)) rfl) ?_
 refine sv (yFn (.cons rfl .nil)) ?_
 refine sv (yBuild Tryz.zeroValue117 rfl pl117 (.cons rfl rfl (.cons rfl rfl .nil)) rfl) ?_
 refine sv (yFn (.cons rfl .nil)) ?_
 refine sv (yBuild Tryz.zeroValue117 rfl pl117 (.cons rfl rfl (.cons rfl rfl .nil)) rfl) ?_
 refine sbslice hS Tryz.underlying137 Tryz.sizeOf117 rfl Tryz.zeroValue117 rfl (.cons rfl rfl (.cons rfl rfl (.cons rfl rfl .nil))) rfl ?_; clear hS; intro b15 w hS
 refine scall Tryz.call39 (.cons rfl .nil) (c_first (rs := [⟨40, [.pointer (some ⟨b1, 0, none⟩)], 6, !isName g.name⟩, ⟨42, [.pointer (some ⟨b1, 0, none⟩)], 2, outB g.kind 1 3⟩, ⟨44, [.pointer (some ⟨b1, 0, none⟩)], 7, outB g.travel 1 5000⟩]) (hS.at _) ⟨Tryz.call40, fun w e => c_Check1 (e.get (hS.at b1)) h.name, fun _ => ⟨Tryz.call42, fun w e => c_Check2 (e.get (hS.at b1)), fun _ => ⟨Tryz.call44, fun w e => c_Check3 (e.get (hS.at b1)), fun _ => trivial⟩⟩⟩ (Nat.le_of_ble_eq_true rfl) (show firstE _ = gc1 g from rfl)) ?_
 rintro _ w ⟨rfl, hE⟩; replace hS := hS.step hE; clear hE
 refine sv (yAsg rfl) ?_
 refine nil ?_
 show Code.wp _ _ _ _ _
 refine seq ?_
 refine seq ?_
 refine region ?_
 refine sv (yMove rfl) ?_
 refine sv (yNeq rfl rfl) ?_
 refine nil ?_
 show Code.wp _ _ _ _ _
 refine cond rfl (fun c18 => ?_) (fun c18 => ?_)
 ·
  simp only [BS, ne_eq] at c18
  refine seq ?_
  refine region ?_
  refine sv (yMove rfl) ?_
  refine sv (yAsg rfl) ?_
  refine sv (yAsg rfl) ?_
  refine sv (yAsg rfl) ?_
  refine nil ?_
  show Code.wp _ _ _ _ _
  refine wp_ret (thenR ?_)
  refine retQ (res3 rfl rfl rfl rfl) ?_
  exact ⟨_, _, congrArg (fun z => Value.tuple #[_, _, .int .i64 z]) (by unfold chkG; rw [if_pos c18]), hS.ext⟩
 ·
  simp only [BS, ne_eq] at c18
  refine skip ?_
  show Code.wp _ _ _ _ _
  refine seq ?_
  refine seq ?_
  refine region ?_
  refine sv (fa29_3 rfl) ?_
  refine sv (yLdB rfl Tryz.isAgg26 (hS.at _) rfl) ?_
  refine sv (yLen rfl Tryz.underlying26) ?_
  refine scall Tryz.call43 (.cons rfl (.cons rfl (.cons rfl .nil))) c_out ?_
  rintro _ w ⟨rfl, hE⟩; replace hS := hS.step hE; clear hE
  refine nil ?_
  show Code.wp _ _ _ _ _
  refine cond rfl (fun c23 => ?_) (fun c23 => ?_)
  ·
   refine seq ?_
   refine region ?_
   refine sv (yAsg rfl) ?_
   refine sv (yAsg rfl) ?_
   refine sv (yAsg rfl) ?_
   refine nil ?_
   show Code.wp _ _ _ _ _
   refine wp_ret (thenR ?_)
   refine retQ (res3 rfl rfl rfl rfl) ?_
   exact ⟨_, _, congrArg (fun z => Value.tuple #[_, _, .int .i64 z]) (by unfold chkG; rw [if_neg (fun k => k c18), if_pos c23]), hS.ext⟩
  ·
   have hln := outB_false.1 c23
   refine skip ?_
   show Code.wp _ _ _ _ _
   refine seq ?_
   refine seq ?_
   refine region ?_
   refine sv (fa29_3 rfl) ?_
   refine sv (yLdB rfl Tryz.isAgg26 (hS.at _) rfl) ?_
   refine sv (yLen rfl Tryz.underlying26) ?_
   refine sv (yMove rfl) ?_
   refine nil ?_
   show Code.wp _ _ _ _ _
   refine block ?_
   refine loop (fun f w zz => ∃ (k : Nat), f 1 = .pointer (some ⟨b1, 0, none⟩) ∧ f 25 = .slice ao g.own.length co ∧ f 26 = .int .i64 (g.own.length : Int) ∧ f 27 = .int .i64 (k : Int) ∧ StX [] w0 w [blk b1 (gatL g (.slice ao g.own.length co) (.slice az g.sens.length cz)) 29] ∧ (k ≤ g.own.length) ∧ (fstE (frcE g.kind) g.own = fstE (frcE g.kind) (g.own.drop k)) ∧ zz = g.own.length - k) _ ⟨_, rfl, 0, rfl, rfl, rfl, rfl, (hS.sub (.cons _ (List.Sublist.refl _))), (Nat.zero_le _), (rfl), rfl⟩ ?_
   clear hS
   rintro f w _ ⟨k, h1, h25, h26, h27, hS, hk, hI, rfl⟩
   refine seq ?_
   refine region ?_
   refine sv (yLss h27 h26) ?_
   refine nil ?_
   show Code.wp _ _ _ _ _
   refine seq ?_
   refine cond rfl (fun c28 => ?_) (fun c28 => ?_)
   ·
    simp only [BS, ne_eq] at c28
    obtain ⟨x, hx, hd⟩ := drop_of (l := g.own) (k := k) (by omega)
    obtain ⟨bq, oq, cq, haq, -, hcq, hRq, -⟩ := sl_at h.own hx
    obtain ⟨rfl, hxi⟩ := hRq
    refine skip ?_
    show Code.wp _ _ _ _ _
    refine seq ?_
    refine block ?_
    refine seq ?_
    refine region ?_
    refine sv (yMove h27) ?_
    refine sv (yIxa h25 haq h27 Tryz.runUnderlying26 Tryz.sizeOf3 (by omega) (by omega)) ?_
    refine sv (yLd rfl Tryz.isAgg3 (hcq.ext hS.ext).one) ?_
    refine sv (yAsg rfl) ?_
    refine sv (yAsg rfl) ?_
    refine nil ?_
    show Code.wp _ _ _ _ _
    refine seq ?_
    refine region ?_
    refine sv (fa29_1 h1) ?_
    refine sv (yLdB rfl Tryz.isAgg3 (hS.at _) rfl) ?_
    refine sv (yMove rfl) ?_
    refine scall Tryz.call45 (.cons rfl (.cons rfl .nil)) c_force ?_
    rintro _ w ⟨rfl, hE⟩; replace hS := hS.step hE; clear hE
    refine sv (yAsg rfl) ?_
    refine nil ?_
    show Code.wp _ _ _ _ _
    refine seq ?_
    refine region ?_
    refine sv (yMove rfl) ?_
    refine sv (yNeq rfl rfl) ?_
    refine nil ?_
    show Code.wp _ _ _ _ _
    refine cond rfl (fun c37 => ?_) (fun c37 => ?_)
    ·
     simp only [BS, ne_eq] at c37
     refine seq ?_
     refine region ?_
     refine sv (yMove rfl) ?_
     refine sv (yMove rfl) ?_
     refine sv (yAsg rfl) ?_
     refine sv (yAsg rfl) ?_
     refine sv (yAsg rfl) ?_
     refine nil ?_
     show Code.wp _ _ _ _ _
     refine wp_ret (blockR (thenR (thenR (blockR (thenR ?_)))))
     refine retQ (res3 rfl rfl rfl rfl) ?_
     have hfin : fstE (frcE g.kind) g.own = frcE g.kind x := by rw [hI, hd, fstE_hit c37]
     exact ⟨_, _, congrArg (fun z => Value.tuple #[_, _, .int .i64 z]) (by unfold chkG; rw [if_neg (fun k => k c18), if_neg (by rw [c23]; decide), hfin, if_pos c37]), hS.ext⟩
    ·
     simp only [BS, ne_eq] at c37
     refine skip ?_
     show Code.wp _ _ _ _ _
     refine region ?_
     refine sv (yAdd h27 rfl ⟨by omega, by omega⟩) ?_
     refine sv (yMove rfl) ?_
     refine nil ?_
     exact ⟨_, _, rfl, ⟨k + 1, h1, h25, h26, rfl, hS, (by omega), (by rw [hI, hd, fstE_step c37]), rfl⟩, by omega⟩
   ·
    simp only [BS, ne_eq] at c28
    obtain rfl : k = g.own.length := by omega
    have hf1 : fstE (frcE g.kind) g.own = 0 := by rw [hI, List.drop_length]; rfl
    refine exit ?_
    show Code.wp _ _ _ _ _
    refine seq ?_
    refine region ?_
    refine sv (yFn (.cons h1 .nil)) ?_
    refine sv (yBuild Tryz.zeroValue117 rfl pl117 (.cons rfl rfl (.cons rfl rfl .nil)) rfl) ?_
    refine sv (yFn (.cons h1 .nil)) ?_
    refine sv (yBuild Tryz.zeroValue117 rfl pl117 (.cons rfl rfl (.cons rfl rfl .nil)) rfl) ?_
    refine sv (yFn (.cons h1 .nil)) ?_
    refine sv (yBuild Tryz.zeroValue117 rfl pl117 (.cons rfl rfl (.cons rfl rfl .nil)) rfl) ?_
    refine sv (yFn (.cons h1 .nil)) ?_
    refine sv (yBuild Tryz.zeroValue117 rfl pl117 (.cons rfl rfl (.cons rfl rfl .nil)) rfl) ?_
    refine sv (yFn (.cons h1 .nil)) ?_
    refine sv (yBuild Tryz.zeroValue117 rfl pl117 (.cons rfl rfl (.cons rfl rfl .nil)) rfl) ?_
    refine sbslice hS Tryz.underlying137 Tryz.sizeOf117 rfl Tryz.zeroValue117 rfl (.cons rfl rfl (.cons rfl rfl (.cons rfl rfl (.cons rfl rfl (.cons rfl rfl .nil))))) rfl ?_; clear hS; intro b51 w hS
    refine scall Tryz.call39 (.cons rfl .nil) (c_first (rs := [⟨46, [.pointer (some ⟨b1, 0, none⟩)], 7, gb1 g⟩, ⟨48, [.pointer (some ⟨b1, 0, none⟩)], 7, gb2 g⟩, ⟨50, [.pointer (some ⟨b1, 0, none⟩)], 7, gb3 g⟩, ⟨51, [.pointer (some ⟨b1, 0, none⟩)], 7, gb4 g⟩, ⟨52, [.pointer (some ⟨b1, 0, none⟩)], 7, gb5 g⟩]) (hS.at _) ⟨Tryz.call46, fun w e => c_Check4 (e.get (hS.at b1)), fun _ => ⟨Tryz.call48, fun w e => c_Check5 (e.get (hS.at b1)) i1 i2, fun _ => ⟨Tryz.call50, fun w e => c_Check6 (e.get (hS.at b1)) i3 i4 i5, fun _ => ⟨Tryz.call51, fun w e => c_Check7 (e.get (hS.at b1)), fun _ => ⟨Tryz.call52, fun w e => c_Check8 (e.get (hS.at b1)) i6 i7 i8 i9 (gc1_ok g c18).2, fun _ => trivial⟩⟩⟩⟩⟩ (Nat.le_of_ble_eq_true rfl) (show firstE _ = gc3 g from rfl)) ?_
    rintro _ w ⟨rfl, hE⟩; replace hS := hS.step hE; clear hE
    refine sv (yAsg rfl) ?_
    refine nil ?_
    show Code.wp _ _ _ _ _
    refine seq ?_
    refine seq ?_
    refine region ?_
    refine sv (yMove rfl) ?_
    refine sv (yNeq rfl rfl) ?_
    refine nil ?_
    show Code.wp _ _ _ _ _
    refine cond rfl (fun c54 => ?_) (fun c54 => ?_)
    ·
     simp only [BS, ne_eq] at c54
     refine seq ?_
     refine region ?_
     refine sv (yMove rfl) ?_
     refine sv (yAsg rfl) ?_
     refine sv (yAsg rfl) ?_
     refine sv (yAsg rfl) ?_
     refine nil ?_
     show Code.wp _ _ _ _ _
     refine wp_ret (thenR ?_)
     refine retQ (res3 rfl rfl rfl rfl) ?_
     exact ⟨_, _, congrArg (fun z => Value.tuple #[_, _, .int .i64 z]) (by unfold chkG; rw [if_neg (fun k => k c18), if_neg (by rw [c23]; decide), if_neg (fun k => k hf1), if_pos c54]), hS.ext⟩
    ·
     simp only [BS, ne_eq] at c54
     refine skip ?_
     show Code.wp _ _ _ _ _
     refine seq ?_
     refine seq ?_
     refine region ?_
     refine sv (fa29_19 h1) ?_
     refine sv (yLdB rfl Tryz.isAgg27 (hS.at _) rfl) ?_
     refine sv (yLen rfl Tryz.underlying27) ?_
     refine sv (yGtr rfl rfl) ?_
     refine nil ?_
     show Code.wp _ _ _ _ _
     refine cond rfl (fun c59 => ?_) (fun c59 => ?_)
     ·
      simp only [BS, ne_eq] at c59
      refine seq ?_
      refine region ?_
      refine sv (yAsg rfl) ?_
      refine sv (yAsg rfl) ?_
      refine sv (yAsg rfl) ?_
      refine nil ?_
      show Code.wp _ _ _ _ _
      refine wp_ret (thenR ?_)
      refine retQ (res3 rfl rfl rfl rfl) ?_
      exact ⟨_, _, congrArg (fun z => Value.tuple #[_, _, .int .i64 z]) (by unfold chkG; rw [if_neg (fun k => k c18), if_neg (by rw [c23]; decide), if_neg (fun k => k hf1), if_neg (fun k => k c54), if_pos c59]), hS.ext⟩
     ·
      simp only [BS, ne_eq] at c59
      refine skip ?_
      show Code.wp _ _ _ _ _
      refine seq ?_
      refine seq ?_
      refine region ?_
      refine sv (fa29_19 h1) ?_
      refine sv (yLdB rfl Tryz.isAgg27 (hS.at _) rfl) ?_
      refine sv (yLen rfl Tryz.underlying27) ?_
      refine sv (yMove rfl) ?_
      refine nil ?_
      show Code.wp _ _ _ _ _
      refine block ?_
      refine loop (fun f w zz => ∃ (k : Nat), f 1 = .pointer (some ⟨b1, 0, none⟩) ∧ f 61 = .slice az g.sens.length cz ∧ f 62 = .int .i64 (g.sens.length : Int) ∧ f 63 = .int .i64 (k : Int) ∧ StX [] w0 w [blk b1 (gatL g (.slice ao g.own.length co) (.slice az g.sens.length cz)) 29] ∧ (k ≤ g.sens.length) ∧ (fstE senE g.sens = fstE senE (g.sens.drop k)) ∧ zz = g.sens.length - k) _ ⟨_, rfl, 0, h1, rfl, rfl, rfl, (hS.sub (.cons _ (List.Sublist.refl _))), (Nat.zero_le _), (rfl), rfl⟩ ?_
      clear hS
      rintro f w _ ⟨k, h1, h61, h62, h63, hS, hk, hJ, rfl⟩
      refine seq ?_
      refine region ?_
      refine sv (yLss h63 h62) ?_
      refine nil ?_
      show Code.wp _ _ _ _ _
      refine seq ?_
      refine cond rfl (fun c64 => ?_) (fun c64 => ?_)
      ·
       simp only [BS, ne_eq] at c64
       obtain ⟨x, hx, hd⟩ := drop_of (l := g.sens) (k := k) (by omega)
       obtain ⟨bq, oq, cq, haq, -, hcq, hRq, -⟩ := sl_at h.sens hx
       obtain ⟨rfl, -, hxi, hxj⟩ := hRq
       refine skip ?_
       show Code.wp _ _ _ _ _
       refine seq ?_
       refine block ?_
       refine seq ?_
       refine region ?_
       refine sv (yMove h63) ?_
       refine sv (yIxa h61 haq h63 Tryz.runUnderlying27 Tryz.sizeOf121 (by omega) (by omega)) ?_
       refine sv (yLdA rfl Tryz.isAgg121 Tryz.sizeOf121 (hcq.ext hS.ext) rfl) ?_
       refine salloc hS Tryz.zeroValue121 rfl ?_; clear hS; intro b8 w hS
       refine sv (yAsg rfl) ?_
       refine sst hS rfl rfl Tryz.sizeOf121 rfl rfl rfl rfl ?_; clear hS; intro w hS
       refine nil ?_
       show Code.wp _ _ _ _ _
       refine seq ?_
       refine region ?_
       refine sv (yLdBA rfl Tryz.isAgg121 Tryz.sizeOf121 (hS.at _) rfl rfl) ?_
       refine scall Tryz.call53 (.cons rfl .nil) (c_sensor hxi hxj) ?_
       rintro _ w ⟨rfl, hE⟩; replace hS := hS.step hE; clear hE
       refine sv (yAsg rfl) ?_
       refine nil ?_
       show Code.wp _ _ _ _ _
       refine seq ?_
       refine region ?_
       refine sv (yMove rfl) ?_
       refine sv (yNeq rfl rfl) ?_
       refine nil ?_
       show Code.wp _ _ _ _ _
       refine cond rfl (fun c71 => ?_) (fun c71 => ?_)
       ·
        simp only [BS, ne_eq] at c71
        refine seq ?_
        refine region ?_
        refine sv (yMove rfl) ?_
        refine sv (yMove rfl) ?_
        refine sv (yAsg rfl) ?_
        refine sv (yAsg rfl) ?_
        refine sv (yAsg rfl) ?_
        refine nil ?_
        show Code.wp _ _ _ _ _
        refine wp_ret (blockR (thenR (thenR (blockR (thenR ?_)))))
        refine retQ (res3 rfl rfl rfl rfl) ?_
        have hfin : fstE senE g.sens = senE x := by rw [hJ, hd, fstE_hit c71]
        exact ⟨_, _, congrArg (fun z => Value.tuple #[_, _, .int .i64 z]) (by unfold chkG; rw [if_neg (fun k => k c18), if_neg (by rw [c23]; decide), if_neg (fun k => k hf1), if_neg (fun k => k c54), if_neg (by omega), hfin, if_pos c71]), hS.ext⟩
       ·
        simp only [BS, ne_eq] at c71
        refine skip ?_
        show Code.wp _ _ _ _ _
        refine region ?_
        refine sv (yAdd h63 rfl ⟨by omega, by omega⟩) ?_
        refine sv (yMove rfl) ?_
        refine nil ?_
        exact ⟨_, _, rfl, ⟨k + 1, h1, h61, h62, rfl, (hS.sub (.cons _ (List.Sublist.refl _))), (by omega), (by rw [hJ, hd, fstE_step c71]), rfl⟩, by omega⟩
      ·
       simp only [BS, ne_eq] at c64
       obtain rfl : k = g.sens.length := by omega
       have hf2 : fstE senE g.sens = 0 := by rw [hJ, List.drop_length]; rfl
       refine exit ?_
       show Code.wp _ _ _ _ _
       refine seq ?_
       refine seq ?_
       refine region ?_
       refine sv (fa29_19 h1) ?_
       refine sv (yLdB rfl Tryz.isAgg27 (hS.at _) rfl) ?_
       refine sv (yLen rfl Tryz.underlying27) ?_
       refine sv (fa29_20 h1) ?_
       refine sv (yLdB rfl Tryz.isAgg3 (hS.at _) rfl) ?_
       refine sbslice hS Tryz.underlying26 Tryz.sizeOf3 rfl Tryz.zeroValue3 rfl (.cons rfl rfl .nil) rfl ?_; clear hS; intro b80 w hS
       refine scall Tryz.call49 (.cons rfl (.cons rfl .nil)) (c_bey (ints_sl (l := [g.wrong]) (hS.at b80) (by intro x hx; simp only [List.mem_cons, List.not_mem_nil, or_false] at hx; (rcases hx with rfl) <;> assumption) (by simp))) ?_
       rintro _ w ⟨rfl, hE⟩; replace hS := hS.step hE; clear hE
       refine nil ?_
       show Code.wp _ _ _ _ _
       refine cond rfl (fun c81 => ?_) (fun c81 => ?_)
       ·
        refine seq ?_
        refine region ?_
        refine sv (yAsg rfl) ?_
        refine sv (yAsg rfl) ?_
        refine sv (yAsg rfl) ?_
        refine nil ?_
        show Code.wp _ _ _ _ _
        refine wp_ret (thenR ?_)
        refine retQ (res3 rfl rfl rfl rfl) ?_
        exact ⟨_, _, congrArg (fun z => Value.tuple #[_, _, .int .i64 z]) (by unfold chkG; rw [if_neg (fun k => k c18), if_neg (by rw [c23]; decide), if_neg (fun k => k hf1), if_neg (fun k => k c54), if_neg (by omega), if_neg (fun k => k hf2), if_pos c81]), hS.ext⟩
       ·
        refine skip ?_
        show Code.wp _ _ _ _ _
        refine seq ?_
        refine region ?_
        refine sv (yAsg rfl) ?_
        refine sv (yAsg rfl) ?_
        refine sv (yAsg rfl) ?_
        refine nil ?_
        show Code.wp _ _ _ _ _
        refine wp_ret ?_
        refine retQ (res3 rfl rfl rfl rfl) ?_
        exact ⟨_, _, congrArg (fun z => Value.tuple #[_, _, .int .i64 z]) (by unfold chkG; rw [if_neg (fun k => k c18), if_neg (by rw [c23]; decide), if_neg (fun k => k hf1), if_neg (fun k => k c54), if_neg (by omega), if_neg (fun k => k hf2), if_neg (by rw [c81]; decide)]), hS.ext⟩
/-- barrage/gate.lost -/
theorem c_lost {g : Gat} {qo qs : Value} {s : GSt} {w0 : World} : CV Tryz.prog 24 #[.agg (gatL g qo qs).toArray, .agg (gstC s).toArray] w0 (.int .i64 (lostE g s)) := by
 refine enter Tryz.func24 rfl Tryz.ntmps24 rfl ?_
 have hS := St.start w0
 refine seq ?_
 refine region ?_
 refine sbox hS rfl rfl ?_; clear hS; intro b2 w hS
 refine sbox hS rfl rfl ?_; clear hS; intro b3 w hS
 refine sv (yAsg rfl) ?_
 refine nil ?_
 show Code.wp _ _ _ _ _
 refine seq ?_
 refine seq ?_
 refine region ?_
 refine sv (fa31_0 rfl) ?_
 refine sv (yLdB rfl Tryz.isAgg3 (hS.at _) rfl) ?_
 refine sv (fa29_2 rfl) ?_
 refine sv (yLdB rfl Tryz.isAgg3 (hS.at _) rfl) ?_
 refine scall Tryz.call43 (.cons rfl (.cons rfl (.cons rfl .nil))) c_out ?_
 rintro _ w ⟨rfl, hE⟩; replace hS := hS.step hE; clear hE
 refine sv (yMove rfl) ?_
 refine sg rfl rfl rfl (fun g => (fa31_1 rfl)) (fun v11 g11 => ?_)
 refine sg rfl rfl rfl (fun g => (yLdB (g11.1 g) Tryz.isAgg3 (hS.at _) rfl)) (fun v12 g12 => ?_)
 refine sg rfl rfl rfl (fun g => (fa29_17 rfl)) (fun v13 g13 => ?_)
 refine sg rfl rfl rfl (fun g => (yLdB (g13.1 g) Tryz.isAgg3 (hS.at _) rfl)) (fun v14 g14 => ?_)
 refine sgc hS rfl rfl rfl Tryz.call43 (fun g => (.cons (g12.1 g) (.cons rfl (.cons (g14.1 g) .nil)))) (fun g => c_out) ?_; clear hS; intro v15 w hS g15
 refine sv (yOr rfl rfl (fun hB => (g15.1 hB))) ?_
 refine nil ?_
 show Code.wp _ _ _ _ _
 refine cond rfl (fun c16 => ?_) (fun c16 => ?_)
 ·
  refine seq ?_
  refine region ?_
  refine sv (yAsg rfl) ?_
  refine nil ?_
  show Code.wp _ _ _ _ _
  refine wp_ret (thenR ?_)
  exact retV (res1 rfl (eqI (by unfold lostE; rw [if_pos c16]))) hS.ext
 ·
  refine skip ?_
  show Code.wp _ _ _ _ _
  refine seq ?_
  refine region ?_
  refine sv (yAsg rfl) ?_
  refine nil ?_
  show Code.wp _ _ _ _ _
  refine wp_ret ?_
  exact retV (res1 rfl (eqI (by unfold lostE; rw [if_neg (by rw [c16]; decide)]))) hS.ext
/-- barrage/gate.odd closure 1 -/
theorem c_odd1 {t : GSp} {b : Nat} {T : TypeId} {w0 : World} (hb : w0.heap[b]? = some (.cells (gspC t).toArray T (0, 0))) : CV Tryz.prog 54 #[.pointer (some ⟨b, 0, none⟩)] w0 (.bool (outB t.order 0 2)) := by
 refine enter Tryz.func54 rfl Tryz.ntmps54 rfl ?_
 have hS := St.start w0
 refine seq ?_
 refine region ?_
 refine sv (yAsg rfl) ?_
 refine nil ?_
 show Code.wp _ _ _ _ _
 refine seq ?_
 refine region ?_
 refine sv (fa45_0 rfl) ?_
 refine sv (yLdB rfl Tryz.isAgg3 (hS.ext.get hb) rfl) ?_
 refine scall Tryz.call43 (.cons rfl (.cons rfl (.cons rfl .nil))) c_out ?_
 rintro _ w ⟨rfl, hE⟩; replace hS := hS.step hE; clear hE
 refine sv (yAsg rfl) ?_
 refine nil ?_
 show Code.wp _ _ _ _ _
 refine wp_ret ?_
 exact retV (res1 rfl rfl) hS.ext
/-- barrage/gate.odd closure 2 -/
theorem c_odd2 {t : GSp} {b : Nat} {T : TypeId} {w0 : World} (hb : w0.heap[b]? = some (.cells (gspC t).toArray T (0, 0))) : CV Tryz.prog 55 #[.pointer (some ⟨b, 0, none⟩)] w0 (.bool (dryB t.outer || dryB t.inner)) := by
 refine enter Tryz.func55 rfl Tryz.ntmps55 rfl ?_
 have hS := St.start w0
 refine seq ?_
 refine region ?_
 refine sv (yAsg rfl) ?_
 refine nil ?_
 show Code.wp _ _ _ _ _
 refine seq ?_
 refine region ?_
 refine sv (fa45_2 rfl) ?_
 refine sv (yLdB rfl Tryz.isAgg3 (hS.ext.get hb) rfl) ?_
 refine scall Tryz.call47 (.cons rfl .nil) c_dry ?_
 rintro _ w ⟨rfl, hE⟩; replace hS := hS.step hE; clear hE
 refine sv (yMove rfl) ?_
 refine sg rfl rfl rfl (fun g => (fa45_3 rfl)) (fun v6 g6 => ?_)
 refine sg rfl rfl rfl (fun g => (yLdB (g6.1 g) Tryz.isAgg3 (hS.ext.get hb) rfl)) (fun v7 g7 => ?_)
 refine sgc hS rfl rfl rfl Tryz.call47 (fun g => (.cons (g7.1 g) .nil)) (fun g => c_dry) ?_; clear hS; intro v8 w hS g8
 refine sv (yOr rfl rfl (fun hB => (g8.1 hB))) ?_
 refine sv (yAsg rfl) ?_
 refine nil ?_
 show Code.wp _ _ _ _ _
 refine wp_ret ?_
 exact retV (res1 rfl rfl) hS.ext
/-- barrage/gate.odd -/
theorem c_odd {g : Gat} {qo qs : Value} {s : GSt} {t : GSp} {w0 : World} : CV Tryz.prog 25 #[.agg (gatL g qo qs).toArray, .agg (gstC s).toArray, .agg (gspC t).toArray] w0 (.int .i64 (oddE g s t)) := by
 refine enter Tryz.func25 rfl Tryz.ntmps25 rfl ?_
 have hS := St.start w0
 refine seq ?_
 refine region ?_
 refine sbox hS rfl rfl ?_; clear hS; intro b3 w hS
 refine sbox hS rfl rfl ?_; clear hS; intro b4 w hS
 refine sbox hS rfl rfl ?_; clear hS; intro b5 w hS
 refine sv (yAsg rfl) ?_
 refine nil ?_
 show Code.wp _ _ _ _ _
 refine seq ?_
 refine seq ?_
 refine region ?_
 refine sv (yLdBA rfl Tryz.isAgg29 Tryz.sizeOf29 (hS.at _) rfl rfl) ?_
 refine sv (yLdBA rfl Tryz.isAgg31 Tryz.sizeOf31 (hS.at _) rfl rfl) ?_
 refine scall Tryz.call24 (.cons rfl (.cons rfl .nil)) c_lost ?_
 rintro _ w ⟨rfl, hE⟩; replace hS := hS.step hE; clear hE
 refine sv (yAsg rfl) ?_
 refine nil ?_
 show Code.wp _ _ _ _ _
 refine seq ?_
 refine region ?_
 refine sv (yMove rfl) ?_
 refine sv (yNeq rfl rfl) ?_
 refine nil ?_
 show Code.wp _ _ _ _ _
 refine cond rfl (fun c12 => ?_) (fun c12 => ?_)
 ·
  simp only [BS, ne_eq] at c12
  refine seq ?_
  refine region ?_
  refine sv (yMove rfl) ?_
  refine sv (yAsg rfl) ?_
  refine nil ?_
  show Code.wp _ _ _ _ _
  refine wp_ret (thenR ?_)
  exact retV (res1 rfl (eqI (by unfold oddE; rw [if_pos c12]))) hS.ext
 ·
  simp only [BS, ne_eq] at c12
  refine skip ?_
  show Code.wp _ _ _ _ _
  refine seq ?_
  refine region ?_
  refine sv (yFn (.cons rfl .nil)) ?_
  refine sv (yBuild Tryz.zeroValue117 rfl pl117 (.cons rfl rfl (.cons rfl rfl .nil)) rfl) ?_
  refine sv (yFn (.cons rfl .nil)) ?_
  refine sv (yBuild Tryz.zeroValue117 rfl pl117 (.cons rfl rfl (.cons rfl rfl .nil)) rfl) ?_
  refine sbslice hS Tryz.underlying137 Tryz.sizeOf117 rfl Tryz.zeroValue117 rfl (.cons rfl rfl (.cons rfl rfl .nil)) rfl ?_; clear hS; intro b18 w hS
  refine scall Tryz.call39 (.cons rfl .nil) (c_first (rs := [⟨54, [.pointer (some ⟨b5, 0, none⟩)], 2, outB t.order 0 2⟩, ⟨55, [.pointer (some ⟨b5, 0, none⟩)], 7, dryB t.outer || dryB t.inner⟩]) (hS.at _) ⟨Tryz.call54, fun w e => c_odd1 (e.get (hS.at b5)), fun _ => ⟨Tryz.call55, fun w e => c_odd2 (e.get (hS.at b5)), fun _ => trivial⟩⟩ (Nat.le_of_ble_eq_true rfl) (show firstE _ = stepE t from rfl)) ?_
  rintro _ w ⟨rfl, hE⟩; replace hS := hS.step hE; clear hE
  refine sv (yAsg rfl) ?_
  refine nil ?_
  show Code.wp _ _ _ _ _
  refine wp_ret ?_
  exact retV (res1 rfl (eqI (by unfold oddE; rw [if_neg (fun k => k c12)]))) hS.ext
/-- barrage/gate.at -/
theorem c_at {g : Gat} {qo qs : Value} {o i : Int} {w0 : World} (h : RGatP w0 g qo qs) : CE Tryz.prog 27 #[.agg (gatL g qo qs).toArray, .int .i64 o, .int .i64 i] w0 (fun u w' => (atE g o i ≠ 0 ∧ u = .tuple #[.pointer none, .int .i64 (atE g o i)] ∧ Ext w0 w') ∨ atE g o i = 0 ∧ ∃ b, u = .tuple #[.pointer (some ⟨b, 0, none⟩), .int .i64 0] ∧ St w0 w' [blk b (macL g qo qs ⟨0, 0, false⟩ ⟨0, false, o, i⟩ 0 0 0) 125]) := by
 refine enter Tryz.func27 rfl Tryz.ntmps27 rfl ?_
 have hS := St.start w0
 refine seq ?_
 refine region ?_
 refine sbox hS rfl rfl ?_; clear hS; intro b3 w hS
 refine sv (yAsg rfl) ?_
 refine sv (yAsg rfl) ?_
 refine nil ?_
 show Code.wp _ _ _ _ _
 refine seq ?_
 refine seq ?_
 refine region ?_
 refine sv (yLdBA rfl Tryz.isAgg29 Tryz.sizeOf29 (hS.at _) rfl rfl) ?_
 refine scall Tryz.call23 (.cons rfl .nil) (c_Check (h.ext hS.ext)) ?_
 rintro _ w ⟨ka, kb, rfl, hE⟩; replace hS := hS.step hE; clear hE
 refine sv (yMove rfl) ?_
 refine sv (yExt rfl rfl) ?_
 refine sv (yExt rfl rfl) ?_
 refine sv (yExt rfl rfl) ?_
 refine sv (yAsg rfl) ?_
 refine sv (yAsg rfl) ?_
 refine sv (yAsg rfl) ?_
 refine nil ?_
 show Code.wp _ _ _ _ _
 refine seq ?_
 refine region ?_
 refine sv (yMove rfl) ?_
 refine sv (yNeq rfl rfl) ?_
 refine nil ?_
 show Code.wp _ _ _ _ _
 refine cond rfl (fun c18 => ?_) (fun c18 => ?_)
 ·
  simp only [BS, ne_eq] at c18
  refine seq ?_
  refine region ?_
  refine sv (yMove rfl) ?_
  refine sv (yAsg rfl) ?_
  refine sv (yAsg rfl) ?_
  refine nil ?_
  show Code.wp _ _ _ _ _
  refine wp_ret (thenR ?_)
  refine retQ (res2 rfl rfl rfl) ?_
  have hz : atE g o i = chkG g := by unfold atE; rw [if_pos c18]
  exact .inl ⟨by rw [hz]; exact c18, by rw [hz]; rfl, hS.ext⟩
 ·
  simp only [BS, ne_eq] at c18
  refine skip ?_
  show Code.wp _ _ _ _ _
  refine seq ?_
  refine seq ?_
  refine region ?_
  refine sv (yMove rfl) ?_
  refine scall Tryz.call47 (.cons rfl .nil) c_dry ?_
  rintro _ w ⟨rfl, hE⟩; replace hS := hS.step hE; clear hE
  refine sv (yMove rfl) ?_
  refine sg rfl rfl rfl (fun g => (yMove rfl)) (fun v23 g23 => ?_)
  refine sgc hS rfl rfl rfl Tryz.call47 (fun g => (.cons (g23.1 g) .nil)) (fun g => c_dry) ?_; clear hS; intro v24 w hS g24
  refine sv (yOr rfl rfl (fun hB => (g24.1 hB))) ?_
  refine nil ?_
  show Code.wp _ _ _ _ _
  refine cond rfl (fun c25 => ?_) (fun c25 => ?_)
  ·
   refine seq ?_
   refine region ?_
   refine sv (yAsg rfl) ?_
   refine sv (yAsg rfl) ?_
   refine nil ?_
   show Code.wp _ _ _ _ _
   refine wp_ret (thenR ?_)
   refine retQ (res2 rfl rfl rfl) ?_
   have hz : atE g o i = 7 := by unfold atE; rw [if_neg (fun k => k c18), if_pos c25]
   exact .inl ⟨by rw [hz]; decide, by rw [hz]; rfl, hS.ext⟩
  ·
   refine skip ?_
   show Code.wp _ _ _ _ _
   refine seq ?_
   refine region ?_
   refine sv (yLdBA rfl Tryz.isAgg29 Tryz.sizeOf29 (hS.at _) rfl rfl) ?_
   refine sv (yMove rfl) ?_
   refine sv (yMove rfl) ?_
   refine sv (yBuild Tryz.zeroValue45 rfl pl45 (.cons rfl rfl (.cons rfl rfl .nil)) rfl) ?_
   refine sv (yBuild Tryz.zeroValue125 rfl pl125 (.cons rfl rfl (.cons rfl rfl .nil)) rfl) ?_
   refine sbox hS rfl rfl ?_; clear hS; intro b31 w hS
   refine sv (yAsg rfl) ?_
   refine sv (yAsg rfl) ?_
   refine nil ?_
   show Code.wp _ _ _ _ _
   refine wp_ret ?_
   refine retQ (res2 rfl rfl rfl) ?_
   have hz : atE g o i = 0 := by unfold atE; rw [if_neg (fun k => k c18), if_neg (by rw [c25]; decide)]
   exact .inr ⟨hz, b31, rfl, hS.sub (.cons_cons _ (List.nil_sublist _))⟩
end Go.Proofs.YtbbpiebhnbhbiaaGreat
namespace Bx
open Go Go.RowKit
section
variable {g : Gat}
theorem gow_get {k : Int} (h : 0 ≤ k ∧ k < g.own.length) : g.own[k.toNat]? = some (gow g k) := by
 unfold gow
 have : k.toNat < g.own.length := by omega
 simp [List.getD, this]
theorem dn_neg {a b : Int} (h : a < 0) : dnF a b = -((-a + b - 1) / b) := by unfold dnF; rw [if_pos h]
theorem dn_pos {a b : Int} (h : ¬ a < 0) : dnF a b = a / b := by unfold dnF; rw [if_neg h]
theorem fA_arg (h : GatOk g) {p : Int} (hp : 0 ≤ p ∧ p ≤ g.travel) : (gow g (fK g p) * (g.travel - fR g p)).natAbs ≤ 1000000000 ∧ (gow g (fK g p + 1) * fR g p).natAbs ≤ 1000000000 := by
 obtain ⟨-, -, h1, h2, -⟩ := fK_bd h hp
 have h3 := h.trav
 exact ⟨mulA 200000 5000 (gow_bd h _) (by omega), mulA 200000 5000 (gow_bd h _) (by omega)⟩
theorem fE_arg (h : GatOk g) {p : Int} (hp : 0 ≤ p ∧ p ≤ g.travel) : (g.opn * (g.travel - p)).natAbs ≤ 100000000 ∧ (g.shut * p).natAbs ≤ 100000000 := by
 have h3 := h.trav; have h4 := h.opn; have h5 := h.shut
 exact ⟨mulA 20000 5000 (by omega) (by omega), mulA 20000 5000 (by omega) (by omega)⟩
theorem fA_bd (h : GatOk g) {p : Int} (hp : 0 ≤ p ∧ p ≤ g.travel) : (fA g p).natAbs ≤ 2000000000 := by
 obtain ⟨h1, h2⟩ := fA_arg h hp
 have h3 := h.trav
 exact dn_bd 2000000000 (by omega) (by omega)
theorem fE_bd (h : GatOk g) {p : Int} (hp : 0 ≤ p ∧ p ≤ g.travel) : (fE g p).natAbs ≤ 200000000 := by
 obtain ⟨h1, h2⟩ := fE_arg h hp
 have h3 := h.trav
 exact dn_bd 200000000 (by omega) (by omega)
theorem fF_arg (h : GatOk g) (p o i : Int) : 0 ≤ g.float * min (max (min o i - fE g p) 0) g.height ∧ g.float * min (max (min o i - fE g p) 0) g.height ≤ 300000000 := by
 have h3 := h.float; have h4 := h.height
 have h5 : 0 ≤ min (max (min o i - fE g p) 0) g.height ∧ min (max (min o i - fE g p) 0) g.height ≤ 30000 := by omega
 have h6 := Int.mul_nonneg h3.1 h5.1
 have h7 := mulA 10000 30000 (a := g.float) (b := min (max (min o i - fE g p) 0) g.height) (by omega) (by omega)
 omega
theorem fF_bd (h : GatOk g) (p o i : Int) : 0 ≤ fF g p o i ∧ fF g p o i ≤ 300000 := by
 obtain ⟨h1, h2⟩ := fF_arg h p o i
 unfold fF
 omega
theorem fW_bd (h : GatOk g) (p o i : Int) : 0 ≤ fW g p o i ∧ fW g p o i ≤ 30000 := by
 have h4 := h.height
 unfold fW; omega
theorem push_bd (h : GatOk g) {o i : Int} (ho : -20000 ≤ o ∧ o ≤ 20000) (hi : -20000 ≤ i ∧ i ≤ 20000) : (g.push * (o - i)).natAbs ≤ 400000000 := by
 have h3 := h.push
 exact mulA 10000 40000 (by omega) (by omega)
theorem slide_bd (h : GatOk g) {o i : Int} (ho : -20000 ≤ o ∧ o ≤ 20000) (hi : -20000 ≤ i ∧ i ≤ 20000) (p : Int) : (0 ≤ g.slide * (max o i - min o i) ∧ g.slide * (max o i - min o i) ≤ 400000000) ∧ 0 ≤ g.slide * (max o i - min o i) * fW g p o i ∧ g.slide * (max o i - min o i) * fW g p o i ≤ 12000000000000 := by
 have h3 := h.slide; have h4 := fW_bd h p o i
 have h5 : 0 ≤ max o i - min o i ∧ max o i - min o i ≤ 40000 := by omega
 have h6 := Int.mul_nonneg h3.1 h5.1
 have h7 := mulA 10000 40000 (a := g.slide) (b := max o i - min o i) (by omega) (by omega)
 have h8 := Int.mul_nonneg h6 h4.1
 have h9 := mulA 400000000 30000 (a := g.slide * (max o i - min o i)) (b := fW g p o i) (by omega) (by omega)
 omega
theorem net_bd (h : GatOk g) {p o i : Int} (hp : 0 ≤ p ∧ p ≤ g.travel) (ho : -20000 ≤ o ∧ o ≤ 20000) (hi : -20000 ≤ i ∧ i ≤ 20000) : (netF g p o i).natAbs ≤ 10000000000 ∧ 0 ≤ rubF g p o i ∧ rubF g p o i ≤ 10000000000 := by
 have h1 := fA_bd h hp; have h2 := fF_bd h p o i; have h3 := dn_bd (b := 1000) 400000000 (by decide) (push_bd h ho hi)
 obtain ⟨h4, h5, h6⟩ := slide_bd h ho hi p
 have h7 := h.sfr
 unfold netF rubF
 refine ⟨?_, by omega, by omega⟩
 split <;> omega
end
/-- How far a gate goes under a force in its direction, of a way that is left; the oil for it. -/
def pushF (g : Gat) (s : GSt) (power : Bool) (f r left : Int) : Int × Int :=
 if r < f then (min g.gravity left, 0)
 else if (!power || decide (f + g.drive ≤ r)) = true then (0, 0)
 else
  let a := if 0 < g.use then min (min g.speed left) (s.charge * 100 / g.use) else min g.speed left
  (a, (a * g.use + 99) / 100)
theorem push_1 {g : Gat} {s : GSt} {w : Bool} {f r l : Int} (h : r < f) : pushF g s w f r l = (min g.gravity l, 0) := by unfold pushF; rw [if_pos h]
theorem push_2 {g : Gat} {s : GSt} {w : Bool} {f r l : Int} (h : ¬ r < f) (k : (!w || decide (f + g.drive ≤ r)) = true) : pushF g s w f r l = (0, 0) := by unfold pushF; rw [if_neg h, if_pos k]
abbrev goGt (g : Gat) (s : GSt) (l : Int) : Int := if 0 < g.use then min (min g.speed l) (s.charge * 100 / g.use) else min g.speed l
theorem push_3 {g : Gat} {s : GSt} {w : Bool} {f r l : Int} (h : ¬ r < f) (k : (!w || decide (f + g.drive ≤ r)) = false) : pushF g s w f r l = (goGt g s l, (goGt g s l * g.use + 99) / 100) := by unfold pushF; rw [if_neg h, if_neg (by rw [k]; decide)]
def cmF (g : Gat) (s : GSt) (t : GSp) : Int × Int := if s.bolted = true then (0, 0) else pushF g s t.power (netF g s.pos t.outer t.inner) (rubF g s.pos t.outer t.inner) (g.travel - s.pos)
/-- The state after a step in which a gate is ordered to close. -/
def doF (g : Gat) (s : GSt) (t : GSp) : GSt := ⟨s.pos + (cmF g s t).1, if t.power = true then min (s.charge - (cmF g s t).2 + g.pump) g.room else s.charge - (cmF g s t).2, s.bolted⟩
def runG (g : Gat) (s : GSt) : List GSp → List GSt
 | [] => []
 | t :: l => doF g s t :: runG g (doF g s t) l
structure GsOk (g : Gat) (s : GSt) : Prop where
 pos : 0 ≤ s.pos ∧ s.pos ≤ g.travel
 charge : 0 ≤ s.charge ∧ s.charge ≤ g.room
theorem lost_iff {g : Gat} {s : GSt} : lostE g s = 0 ↔ GsOk g s := by
 unfold lostE
 constructor
 ·
  intro h
  split at h
  ·
   simp at h
  next k => simp only [Bool.not_eq_true, Bool.or_eq_false_iff, outB_false] at k; exact ⟨k.1, k.2⟩
 ·
  intro h
  rw [if_neg]
  simp only [Bool.not_eq_true, Bool.or_eq_false_iff, outB_false]
  exact ⟨h.pos, h.charge⟩
theorem step_ok {t : GSp} (h : stepE t = 0) : (-20000 ≤ t.outer ∧ t.outer ≤ 20000) ∧ -20000 ≤ t.inner ∧ t.inner ≤ 20000 := by
 unfold stepE at h
 split at h
 ·
  simp at h
 split at h
 ·
  simp at h
 next k => simpa only [dryB, Bool.not_eq_true, Bool.or_eq_false_iff, outB_false] using k
section
variable {g : Gat}
theorem charge_bd (h : GatOk g) {s : GSt} (hs : GsOk g s) : 0 ≤ s.charge * 100 ∧ s.charge * 100 ≤ 10000000 := by have := h.room; have := hs.charge; omega
theorem go_bd (h : GatOk g) {s : GSt} (hs : GsOk g s) {l : Int} (hl : 0 ≤ l ∧ l ≤ 5000) : 0 ≤ goGt g s l ∧ goGt g s l ≤ 100 ∧ (0 < g.use → goGt g s l ≤ s.charge * 100 / g.use) := by
 have h2 := h.speed
 have h4 := Int.ediv_nonneg (charge_bd h hs).1 h.use.1
 unfold goGt
 exact ⟨by split <;> omega, by split <;> omega, fun hu => by rw [if_pos hu]; omega⟩
/-- What a gate uses is there. -/
theorem oil_bd (h : GatOk g) {s : GSt} (hs : GsOk g s) {a : Int} (h0 : 0 ≤ a) (h1 : a ≤ 100) (h2 : 0 < g.use → a ≤ s.charge * 100 / g.use) : (0 ≤ a * g.use ∧ a * g.use ≤ 10000000) ∧ 0 ≤ (a * g.use + 99) / 100 ∧ (a * g.use + 99) / 100 ≤ s.charge := by
 have h3 := h.use; have h4 := hs.charge
 have h5 := Int.mul_nonneg h0 h3.1
 have h6 := mulA 100 100000 (a := a) (b := g.use) (by omega) (by omega)
 refine ⟨by omega, by omega, ?_⟩
 by_cases hu : 0 < g.use
 ·
  have h7 : a * g.use ≤ s.charge * 100 / g.use * g.use := Int.mul_le_mul_of_nonneg_right (h2 hu) (by omega)
  have h8 := Int.ediv_mul_le (s.charge * 100) (show g.use ≠ 0 by omega)
  omega
 ·
  have h9 : g.use = 0 := by omega
  rw [h9]; omega
theorem push_ok (h : GatOk g) {s : GSt} (hs : GsOk g s) (power : Bool) (f r : Int) {left : Int} (hl : 0 ≤ left ∧ left ≤ 5000) : (0 ≤ (pushF g s power f r left).1 ∧ (pushF g s power f r left).1 ≤ left) ∧ 0 ≤ (pushF g s power f r left).2 ∧ (pushF g s power f r left).2 ≤ s.charge := by
 have h1 := h.gravity; have h2 := h.speed; have h3 := hs.charge
 unfold pushF
 split
 ·
  dsimp only; omega
 split
 ·
  dsimp only; omega
 ·
  have h4 := Int.ediv_nonneg (charge_bd h hs).1 h.use.1
  dsimp only
  have h5 := oil_bd h hs (a := if 0 < g.use then min (min g.speed left) (s.charge * 100 / g.use) else min g.speed left) (by split <;> omega) (by split <;> omega) (fun hu => by rw [if_pos hu]; omega)
  refine ⟨⟨by split <;> omega, by split <;> omega⟩, h5.2⟩
theorem do_ok (h : GatOk g) {s : GSt} (hs : GsOk g s) (t : GSp) : GsOk g (doF g s t) ∧ (s.pos ≤ (doF g s t).pos) ∧ (0 ≤ (cmF g s t).1 ∧ (cmF g s t).1 ≤ g.travel - s.pos) ∧ 0 ≤ (cmF g s t).2 ∧ (cmF g s t).2 ≤ s.charge := by
 have h1 := hs.pos; have h2 := hs.charge; have h3 := h.pump; have h4 := h.room; have h5 := h.trav
 have hc : (0 ≤ (cmF g s t).1 ∧ (cmF g s t).1 ≤ g.travel - s.pos) ∧ 0 ≤ (cmF g s t).2 ∧ (cmF g s t).2 ≤ s.charge := by
  unfold cmF
  split
  ·
   dsimp only; omega
  ·
   exact push_ok h hs _ _ _ (by omega)
 refine ⟨⟨?_, ?_⟩, ?_, hc⟩
 ·
  unfold doF; dsimp only; omega
 ·
  unfold doF; dsimp only; split <;> omega
 ·
  unfold doF; dsimp only; omega
end
def RGsp (_ : World) (cs : List Value) (t : GSp) : Prop := cs = gspC t
theorem RGsp.stays : Stays RGsp := fun _ _ _ _ _ h => h
def runE (g : Gat) (s : GSt) (l : List GSp) : Int := if chkG g ≠ 0 then chkG g else if (2000 : Int) < l.length then 3 else if lostE g s ≠ 0 then lostE g s else fstE stepE l
def runO (g : Gat) (s : GSt) (l : List GSp) : List GSt := if runE g s l = 0 then runG g s l else []
theorem run_no {g : Gat} {s : GSt} {l : List GSp} (h : runE g s l ≠ 0) : runO g s l = [] := if_neg h
theorem run_yes {g : Gat} {s : GSt} {l : List GSp} (h : runE g s l = 0) : runO g s l = runG g s l := if_pos h
theorem runG_len {g : Gat} : ∀ (l : List GSp) (s : GSt), (runG g s l).length = l.length
 | [], _ => rfl
 | t :: l, s => by rw [runG, List.length_cons, runG_len l, List.length_cons]
theorem odd_step {g : Gat} {s : GSt} (h : GsOk g s) (t : GSp) : oddE g s t = stepE t := by unfold oddE; rw [if_neg (fun k => k (lost_iff.2 h))]
theorem at_ok {g : Gat} {o i : Int} (h : atE g o i = 0) : chkG g = 0 ∧ (-20000 ≤ o ∧ o ≤ 20000) ∧ -20000 ≤ i ∧ i ≤ 20000 := by
 unfold atE at h
 split at h
 next k => exact absurd h k
 next k =>
 split at h
 ·
  simp at h
 next k2 =>
 simp only [dryB, Bool.not_eq_true, Bool.or_eq_false_iff, outB_false] at k2
 exact ⟨Decidable.not_not.1 k, k2⟩
theorem fall_step {g : Gat} {o i : Int} {k : Nat} (h : ∀ q : Int, 0 ≤ q → q < k → rubF g q o i < netF g q o i) (hk : ¬ netF g k o i ≤ rubF g k o i) : ∀ q : Int, 0 ≤ q → q < ((k + 1 : Nat) : Int) → rubF g q o i < netF g q o i := fun q h0 h1 => by
 by_cases e : q = k
 ·
  subst e; omega
 ·
  exact h q h0 (by omega)
end Bx
namespace Go.Proofs.YtbbpiebhnbhbiaaGreat
open Go Bx
/-- barrage/gate.down -/
theorem c_down {a d : Int} {w0 : World} (hd : 0 < d ∧ d ≤ 1000000) (ha : a.natAbs ≤ 1000000000000) : CV Tryz.prog 57 #[.int .i64 a, .int .i64 d] w0 (.int .i64 (dnF a d)) := by
 refine enter Tryz.func57 rfl Tryz.ntmps57 rfl ?_
 have hS := St.start w0
 refine seq ?_
 refine region ?_
 refine sv (yAsg rfl) ?_
 refine nil ?_
 show Code.wp _ _ _ _ _
 refine seq ?_
 refine seq ?_
 refine region ?_
 refine sv (yMove rfl) ?_
 refine sv (yLss rfl rfl) ?_
 refine nil ?_
 show Code.wp _ _ _ _ _
 refine cond rfl (fun c6 => ?_) (fun c6 => ?_)
 ·
  simp only [BS, ne_eq] at c6
  refine seq ?_
  refine region ?_
  refine sv (yMove rfl) ?_
  refine sv (yNeg rfl ⟨by omega, by omega⟩) ?_
  refine sv (yMove rfl) ?_
  refine sv (yAdd rfl rfl ⟨by omega, by omega⟩) ?_
  refine sv (ySub rfl rfl ⟨by omega, by omega⟩) ?_
  refine sv (yMove rfl) ?_
  refine sv (yQuoP rfl rfl ⟨by omega, by omega⟩ (by omega)) ?_
  refine sv (yNeg rfl ⟨by have := Int.ediv_nonneg (show 0 ≤ -a + d - 1 by omega) (show 0 ≤ d by omega); have := Int.ediv_le_self d (show 0 ≤ -a + d - 1 by omega); omega, by have := Int.ediv_nonneg (show 0 ≤ -a + d - 1 by omega) (show 0 ≤ d by omega); omega⟩) ?_
  refine sv (yAsg rfl) ?_
  refine nil ?_
  show Code.wp _ _ _ _ _
  refine wp_ret (thenR ?_)
  exact retV (res1 rfl (eqI (dn_neg c6))) hS.ext
 ·
  simp only [BS, ne_eq] at c6
  refine skip ?_
  show Code.wp _ _ _ _ _
  refine seq ?_
  refine region ?_
  refine sv (yMove rfl) ?_
  refine sv (yMove rfl) ?_
  refine sv (yQuoP rfl rfl ⟨by omega, by omega⟩ (by omega)) ?_
  refine sv (yAsg rfl) ?_
  refine nil ?_
  show Code.wp _ _ _ _ _
  refine wp_ret ?_
  exact retV (res1 rfl (eqI (dn_pos c6))) hS.ext
/-- (*barrage/gate.machine).forces -/
theorem c_forces {g : Gat} {qo qs : Value} {s : GSt} {t : GSp} {p x1 x2 x3 : Int} {m : Nat} {T : TypeId} {w0 : World} (hb : w0.heap[m]? = some (.cells (macL g qo qs s t x1 x2 x3).toArray T (0, 0))) (hw : Sl w0 1 RInt qo g.own) (hok : GatOk g) (hp : 0 ≤ p ∧ p ≤ g.travel) (ho : -20000 ≤ t.outer ∧ t.outer ≤ 20000) (hi : -20000 ≤ t.inner ∧ t.inner ≤ 20000) : CV Tryz.prog 28 #[.pointer (some ⟨m, 0, none⟩), .int .i64 p] w0 (.tuple #[.int .i64 (netF g p t.outer t.inner), .int .i64 (rubF g p t.outer t.inner)]) := by
 obtain ⟨aw, cw, rfl, -⟩ := id hw
 have k1 := hok.trav; have k2 := hok.lown; have k3 := hok.float; have k4 := hok.height; have k5 := hok.slide; have k6 := hok.push; have k7 := hok.sfr; have k8 := hok.opn; have k9 := hok.shut
 obtain ⟨n0, n1, -⟩ := fN_bd hok hp
 obtain ⟨q0, q1, q2, q3, q4⟩ := fK_bd hok hp
 obtain ⟨u0, u1⟩ := fA_arg hok hp
 obtain ⟨u2, u3⟩ := fE_arg hok hp
 have u4 := fA_bd hok hp
 have u5 := fE_bd hok hp
 have u6 := fF_arg hok p t.outer t.inner
 have u7 := fF_bd hok p t.outer t.inner
 have u8 := fW_bd hok p t.outer t.inner
 have u9 := push_bd hok ho hi
 obtain ⟨y0, y1⟩ := slide_bd hok ho hi p
 have y2 := dn_bd (b := 1000) 400000000 (by decide) u9
 obtain ⟨b1, o1, cs1, ha1, -, hc1, hR1, -⟩ := sl_at hw (gow_get (k := fK g p) (by omega))
 obtain ⟨rfl, -⟩ := hR1
 obtain ⟨b2, o2, cs2, ha2, -, hc2, hR2, -⟩ := sl_at hw (gow_get (k := fK g p + 1) (by omega))
 obtain ⟨rfl, -⟩ := hR2
 refine enter Tryz.func28 rfl Tryz.ntmps28 rfl ?_
 have hS := St.start w0
 refine seq ?_
 refine region ?_
 refine sv (yAsg rfl) ?_
 refine sv (yAsg rfl) ?_
 refine nil ?_
 show Code.wp _ _ _ _ _
 refine seq ?_
 refine region ?_
 refine sv (yMove rfl) ?_
 refine sv (yMove rfl) ?_
 refine sv (yNil rfl) ?_
 refine sv (fa125_0 rfl) ?_
 refine sv (fa29_3 rfl) ?_
 refine sv (yLdB rfl Tryz.isAgg26 (hS.ext.get hb) rfl) ?_
 refine sv (yLen rfl Tryz.underlying26) ?_
 refine sv (ySub rfl rfl ⟨by omega, by omega⟩) ?_
 refine sv (Y.to (yMul rfl rfl (show I64 (fN g p) from ⟨by omega, by omega⟩)) (show Value.int .i64 _ = .int .i64 (fN g p) from rfl)) ?_
 refine sv (yAsg rfl) ?_
 refine nil ?_
 show Code.wp _ _ _ _ _
 refine seq ?_
 refine region_draw mixed (by kernel_rfl) hS ?_
 refine qv (fun w hS => (yMove rfl)) ?_
 refine qv (fun w hS => (yMove rfl)) ?_
 refine qv (fun w hS => (yNil rfl)) ?_
 refine qv (fun w hS => (fa125_0 rfl)) ?_
 refine qv (fun w hS => (fa29_2 rfl)) ?_
 refine qv (fun w hS => (yLdB rfl Tryz.isAgg3 (hS.ext.get hb) rfl)) ?_
 refine qv (fun w hS => (yQuoP rfl rfl ⟨by omega, by omega⟩ (by omega))) ?_
 refine qv (fun w hS => (yMove rfl)) ?_
 refine qv (fun w hS => (yNil rfl)) ?_
 refine qv (fun w hS => (fa125_0 rfl)) ?_
 refine qv (fun w hS => (fa29_3 rfl)) ?_
 refine qv (fun w hS => (yLdB rfl Tryz.isAgg26 (hS.ext.get hb) rfl)) ?_
 refine qv (fun w hS => (yLen rfl Tryz.underlying26)) ?_
 refine qv (fun w hS => (ySub rfl rfl ⟨by omega, by omega⟩)) ?_
 refine qv (fun w hS => (Y.to (yMin rfl rfl) (show Value.int .i64 _ = .int .i64 (fK g p) from rfl))) ?_
 refine qv (fun w hS => (yAsg rfl)) ?_
 clear hS; refine qnil (fun w hS => ?_)
 show Code.wp _ _ _ _ _
 refine seq ?_
 refine cutC (.cons (us rfl (us rfl (us rfl (us rfl (us rfl (us rfl (us rfl (us rfl (us rfl (us rfl (us rfl (us rfl (us rfl (us rfl (us rfl (us rfl (us rfl (us rfl (us rfl (us rfl (us rfl (us rfl (us rfl (us rfl (us rfl (us rfl (us rfl (us rfl (ini_get (t := 0) rfl))))))))))))))))))))))))))))) (.cons (us rfl (us rfl (us rfl (us rfl (us rfl (us rfl (us rfl (us rfl (us rfl (us rfl (us rfl (us rfl (us rfl (us rfl (us rfl (us rfl (us rfl (us rfl (us rfl (us rfl (us rfl (us rfl (us rfl (us rfl (us rfl (us rfl (us rfl (us rfl (ini_get (t := 1) rfl))))))))))))))))))))))))))))) (.cons (us rfl (us rfl (us rfl (us rfl (us rfl (us rfl (us rfl (us rfl (us rfl (us rfl (us rfl (us rfl (us rfl (us rfl (us rfl (us rfl (us rfl (us rfl (us rfl (us rfl (us rfl (us rfl (us rfl (us rfl (us rfl (us rfl (us rfl uh))))))))))))))))))))))))))) (.cons (us rfl (us rfl (us rfl (us rfl (us rfl (us rfl (us rfl (us rfl (us rfl (us rfl (us rfl (us rfl (us rfl (us rfl (us rfl (us rfl (us rfl (us rfl (us rfl (us rfl (us rfl (us rfl (us rfl (us rfl (us rfl (us rfl uh)))))))))))))))))))))))))) (.cons (us rfl (us rfl (us rfl (us rfl (us rfl (us rfl (us rfl (us rfl (us rfl (us rfl (us rfl (us rfl (us rfl (us rfl (us rfl (us rfl uh)))))))))))))))) (.cons uh .nil)))))) ?_
 rintro f ⟨h0, h1, h4, h5, h6, h7, -⟩
 refine region ?_
 refine sv (yMove h6) ?_
 refine sv (yMove h7) ?_
 refine sv (yMove h0) ?_
 refine sv (yNil rfl) ?_
 refine sv (fa125_0 rfl) ?_
 refine sv (fa29_2 rfl) ?_
 refine sv (yLdB rfl Tryz.isAgg3 (hS.ext.get hb) rfl) ?_
 refine sv (yMul rfl rfl ⟨by omega, by omega⟩) ?_
 refine sv (Y.to (ySub rfl rfl ⟨by omega, by omega⟩) (show Value.int .i64 _ = .int .i64 (fR g p) from rfl)) ?_
 refine sv (yAsg rfl) ?_
 refine nil ?_
 show Code.wp _ _ _ _ _
 refine seq ?_
 refine region_draw mixed (by kernel_rfl) hS ?_
 refine qv (fun w hS => (yMove h0)) ?_
 refine qv (fun w hS => (yNil rfl)) ?_
 refine qv (fun w hS => (fa125_0 rfl)) ?_
 refine qv (fun w hS => (fa29_3 rfl)) ?_
 refine qv (fun w hS => (yLdB rfl Tryz.isAgg26 (hS.ext.get hb) rfl)) ?_
 refine qv (fun w hS => (yMove h7)) ?_
 refine qv (fun w hS => (yIxa rfl ha1 rfl Tryz.runUnderlying26 Tryz.sizeOf3 (by omega) (by omega))) ?_
 refine qv (fun w hS => (yLd rfl Tryz.isAgg3 (hc1.ext hS.ext).one)) ?_
 refine qv (fun w hS => (yMove h0)) ?_
 refine qv (fun w hS => (yNil rfl)) ?_
 refine qv (fun w hS => (fa125_0 rfl)) ?_
 refine qv (fun w hS => (fa29_2 rfl)) ?_
 refine qv (fun w hS => (yLdB rfl Tryz.isAgg3 (hS.ext.get hb) rfl)) ?_
 refine qv (fun w hS => (yMove rfl)) ?_
 refine qv (fun w hS => (ySub rfl rfl ⟨by omega, by omega⟩)) ?_
 refine qv (fun w hS => (yMul rfl rfl ⟨by omega, by omega⟩)) ?_
 refine qv (fun w hS => (yMove h0)) ?_
 refine qv (fun w hS => (yNil rfl)) ?_
 refine qv (fun w hS => (fa125_0 rfl)) ?_
 refine qv (fun w hS => (fa29_3 rfl)) ?_
 refine qv (fun w hS => (yLdB rfl Tryz.isAgg26 (hS.ext.get hb) rfl)) ?_
 refine qv (fun w hS => (yMove h7)) ?_
 refine qv (fun w hS => (yAdd rfl rfl ⟨by omega, by omega⟩)) ?_
 refine qv (fun w hS => (yIxa rfl ha2 rfl Tryz.runUnderlying26 Tryz.sizeOf3 (by omega) (by omega))) ?_
 refine qv (fun w hS => (yLd rfl Tryz.isAgg3 (hc2.ext hS.ext).one)) ?_
 refine qv (fun w hS => (yMove rfl)) ?_
 refine qv (fun w hS => (yMul rfl rfl ⟨by omega, by omega⟩)) ?_
 refine qv (fun w hS => (yAdd rfl rfl ⟨by omega, by omega⟩)) ?_
 refine qv (fun w hS => (yMove h0)) ?_
 refine qv (fun w hS => (yNil rfl)) ?_
 refine qv (fun w hS => (fa125_0 rfl)) ?_
 refine qv (fun w hS => (fa29_2 rfl)) ?_
 refine qv (fun w hS => (yLdB rfl Tryz.isAgg3 (hS.ext.get hb) rfl)) ?_
 refine qcall Tryz.call57 (.cons rfl (.cons rfl .nil)) (fun w hS => (c_down (by omega) (by omega))) ?_
 refine qv (fun w hS => (Y.to (yAsg rfl) (show Value.int .i64 _ = .int .i64 (fA g p) from rfl))) ?_
 clear hS; refine qnil (fun w hS => ?_)
 show Code.wp _ _ _ _ _
 refine seq ?_
 refine cutC (.cons (us rfl (us rfl (us rfl (us rfl (us rfl (us rfl (us rfl (us rfl (us rfl (us rfl (us rfl (us rfl (us rfl (us rfl (us rfl (us rfl (us rfl (us rfl (us rfl (us rfl (us rfl (us rfl (us rfl (us rfl (us rfl (us rfl (us rfl (us rfl (us rfl (us rfl (us rfl (us rfl (us rfl (us rfl (us rfl (us rfl (us rfl (us rfl (us rfl (us rfl (us rfl (us rfl (us rfl (us rfl (us rfl h0))))))))))))))))))))))))))))))))))))))))))))) (.cons (us rfl (us rfl (us rfl (us rfl (us rfl (us rfl (us rfl (us rfl (us rfl (us rfl (us rfl (us rfl (us rfl (us rfl (us rfl (us rfl (us rfl (us rfl (us rfl (us rfl (us rfl (us rfl (us rfl (us rfl (us rfl (us rfl (us rfl (us rfl (us rfl (us rfl (us rfl (us rfl (us rfl (us rfl (us rfl (us rfl (us rfl (us rfl (us rfl (us rfl (us rfl (us rfl (us rfl (us rfl (us rfl h1))))))))))))))))))))))))))))))))))))))))))))) (.cons uh (.cons (us rfl (us rfl (us rfl (us rfl (us rfl (us rfl (us rfl (us rfl (us rfl (us rfl (us rfl (us rfl (us rfl (us rfl (us rfl (us rfl (us rfl (us rfl (us rfl (us rfl (us rfl (us rfl (us rfl (us rfl (us rfl (us rfl (us rfl (us rfl (us rfl (us rfl (us rfl (us rfl (us rfl (us rfl (us rfl (us rfl (us rfl (us rfl (us rfl (us rfl (us rfl (us rfl (us rfl (us rfl (us rfl h5))))))))))))))))))))))))))))))))))))))))))))) .nil)))) ?_
 rintro f ⟨h0, h1, h4, h5, -⟩
 refine region_draw mixed (by kernel_rfl) hS ?_
 refine qv (fun w hS => (yMove h0)) ?_
 refine qv (fun w hS => (yNil rfl)) ?_
 refine qv (fun w hS => (fa125_0 rfl)) ?_
 refine qv (fun w hS => (fa29_4 rfl)) ?_
 refine qv (fun w hS => (yLdB rfl Tryz.isAgg3 (hS.ext.get hb) rfl)) ?_
 refine qv (fun w hS => (yMove h0)) ?_
 refine qv (fun w hS => (yNil rfl)) ?_
 refine qv (fun w hS => (fa125_0 rfl)) ?_
 refine qv (fun w hS => (fa29_2 rfl)) ?_
 refine qv (fun w hS => (yLdB rfl Tryz.isAgg3 (hS.ext.get hb) rfl)) ?_
 refine qv (fun w hS => (yMove h1)) ?_
 refine qv (fun w hS => (ySub rfl rfl ⟨by omega, by omega⟩)) ?_
 refine qv (fun w hS => (yMul rfl rfl ⟨by omega, by omega⟩)) ?_
 refine qv (fun w hS => (yMove h0)) ?_
 refine qv (fun w hS => (yNil rfl)) ?_
 refine qv (fun w hS => (fa125_0 rfl)) ?_
 refine qv (fun w hS => (fa29_5 rfl)) ?_
 refine qv (fun w hS => (yLdB rfl Tryz.isAgg3 (hS.ext.get hb) rfl)) ?_
 refine qv (fun w hS => (yMove h1)) ?_
 refine qv (fun w hS => (yMul rfl rfl ⟨by omega, by omega⟩)) ?_
 refine qv (fun w hS => (yAdd rfl rfl ⟨by omega, by omega⟩)) ?_
 refine qv (fun w hS => (yMove h0)) ?_
 refine qv (fun w hS => (yNil rfl)) ?_
 refine qv (fun w hS => (fa125_0 rfl)) ?_
 refine qv (fun w hS => (fa29_2 rfl)) ?_
 refine qv (fun w hS => (yLdB rfl Tryz.isAgg3 (hS.ext.get hb) rfl)) ?_
 refine qcall Tryz.call57 (.cons rfl (.cons rfl .nil)) (fun w hS => (c_down (by omega) (by omega))) ?_
 refine qv (fun w hS => (Y.to (yAsg rfl) (show Value.int .i64 _ = .int .i64 (fE g p) from rfl))) ?_
 clear hS; refine qnil (fun w hS => ?_)
 show Code.wp _ _ _ _ _
 refine seq ?_
 refine cutC (.cons (us rfl (us rfl (us rfl (us rfl (us rfl (us rfl (us rfl (us rfl (us rfl (us rfl (us rfl (us rfl (us rfl (us rfl (us rfl (us rfl (us rfl (us rfl (us rfl (us rfl (us rfl (us rfl (us rfl (us rfl (us rfl (us rfl (us rfl (us rfl h0)))))))))))))))))))))))))))) (.cons (us rfl (us rfl (us rfl (us rfl (us rfl (us rfl (us rfl (us rfl (us rfl (us rfl (us rfl (us rfl (us rfl (us rfl (us rfl (us rfl (us rfl (us rfl (us rfl (us rfl (us rfl (us rfl (us rfl (us rfl (us rfl (us rfl (us rfl (us rfl h4)))))))))))))))))))))))))))) (.cons (us rfl (us rfl (us rfl (us rfl (us rfl (us rfl (us rfl (us rfl (us rfl (us rfl (us rfl (us rfl (us rfl (us rfl (us rfl (us rfl (us rfl (us rfl (us rfl (us rfl (us rfl (us rfl (us rfl (us rfl (us rfl (us rfl (us rfl (us rfl h5)))))))))))))))))))))))))))) (.cons uh .nil)))) ?_
 rintro f ⟨h0, h4, h5, h9, -⟩
 refine region_draw mixed (by kernel_rfl) hS ?_
 refine qv (fun w hS => (yMove h0)) ?_
 refine qv (fun w hS => (yNil rfl)) ?_
 refine qv (fun w hS => (fa125_2 rfl)) ?_
 refine qv (fun w hS => (fa45_2 rfl)) ?_
 refine qv (fun w hS => (yLdB rfl Tryz.isAgg3 (hS.ext.get hb) rfl)) ?_
 refine qv (fun w hS => (yMove h0)) ?_
 refine qv (fun w hS => (yNil rfl)) ?_
 refine qv (fun w hS => (fa125_2 rfl)) ?_
 refine qv (fun w hS => (fa45_3 rfl)) ?_
 refine qv (fun w hS => (yLdB rfl Tryz.isAgg3 (hS.ext.get hb) rfl)) ?_
 refine qv (fun w hS => (yMin rfl rfl)) ?_
 refine qv (fun w hS => (yMove h0)) ?_
 refine qv (fun w hS => (yNil rfl)) ?_
 refine qv (fun w hS => (fa125_2 rfl)) ?_
 refine qv (fun w hS => (fa45_2 rfl)) ?_
 refine qv (fun w hS => (yLdB rfl Tryz.isAgg3 (hS.ext.get hb) rfl)) ?_
 refine qv (fun w hS => (yMove h0)) ?_
 refine qv (fun w hS => (yNil rfl)) ?_
 refine qv (fun w hS => (fa125_2 rfl)) ?_
 refine qv (fun w hS => (fa45_3 rfl)) ?_
 refine qv (fun w hS => (yLdB rfl Tryz.isAgg3 (hS.ext.get hb) rfl)) ?_
 refine qv (fun w hS => (yMax rfl rfl)) ?_
 refine qv (fun w hS => (yAsg rfl)) ?_
 refine qv (fun w hS => (yAsg rfl)) ?_
 clear hS; refine qnil (fun w hS => ?_)
 show Code.wp _ _ _ _ _
 refine seq ?_
 refine region_draw mixed (by kernel_rfl) hS ?_
 refine qv (fun w hS => (yMove h0)) ?_
 refine qv (fun w hS => (yNil rfl)) ?_
 refine qv (fun w hS => (fa125_0 rfl)) ?_
 refine qv (fun w hS => (fa29_7 rfl)) ?_
 refine qv (fun w hS => (yLdB rfl Tryz.isAgg3 (hS.ext.get hb) rfl)) ?_
 refine qv (fun w hS => (yMove rfl)) ?_
 refine qv (fun w hS => (yMove h9)) ?_
 refine qv (fun w hS => (ySub rfl rfl ⟨by omega, by omega⟩)) ?_
 refine qv (fun w hS => (yMax rfl rfl)) ?_
 refine qv (fun w hS => (yMove h0)) ?_
 refine qv (fun w hS => (yNil rfl)) ?_
 refine qv (fun w hS => (fa125_0 rfl)) ?_
 refine qv (fun w hS => (fa29_6 rfl)) ?_
 refine qv (fun w hS => (yLdB rfl Tryz.isAgg3 (hS.ext.get hb) rfl)) ?_
 refine qv (fun w hS => (yMin rfl rfl)) ?_
 refine qv (fun w hS => (yMul rfl rfl ⟨by omega, by omega⟩)) ?_
 refine qv (fun w hS => (Y.to (yQuoP rfl rfl ⟨by omega, by omega⟩ (by omega)) (show Value.int .i64 _ = .int .i64 (fF g p t.outer t.inner) from rfl))) ?_
 refine qv (fun w hS => (yAsg rfl)) ?_
 clear hS; refine qnil (fun w hS => ?_)
 show Code.wp _ _ _ _ _
 refine seqJ (n := 208) (fun f w => f 0 = .pointer (some ⟨m, 0, none⟩) ∧ f 4 = .int .i64 (if g.kind = 3 then fA g p + fF g p t.outer t.inner else fA g p - fF g p t.outer t.inner) ∧ f 9 = .int .i64 (fE g p) ∧ f 10 = .int .i64 (min t.outer t.inner) ∧ f 11 = .int .i64 (max t.outer t.inner) ∧ StX [] w0 w [] ∧ True) ?_ ?_
 ·
  refine seq ?_
  refine cutC (.cons (us rfl (us rfl (us rfl (us rfl (us rfl (us rfl (us rfl (us rfl (us rfl (us rfl (us rfl (us rfl (us rfl (us rfl (us rfl (us rfl (us rfl (us rfl (us rfl (us rfl (us rfl (us rfl (us rfl (us rfl (us rfl (us rfl (us rfl (us rfl (us rfl (us rfl (us rfl (us rfl (us rfl (us rfl (us rfl (us rfl (us rfl (us rfl (us rfl (us rfl (us rfl (us rfl h0)))))))))))))))))))))))))))))))))))))))))) (.cons (us rfl (us rfl (us rfl (us rfl (us rfl (us rfl (us rfl (us rfl (us rfl (us rfl (us rfl (us rfl (us rfl (us rfl (us rfl (us rfl (us rfl (us rfl (us rfl (us rfl (us rfl (us rfl (us rfl (us rfl (us rfl (us rfl (us rfl (us rfl (us rfl (us rfl (us rfl (us rfl (us rfl (us rfl (us rfl (us rfl (us rfl (us rfl (us rfl (us rfl (us rfl (us rfl h4)))))))))))))))))))))))))))))))))))))))))) (.cons (us rfl (us rfl (us rfl (us rfl (us rfl (us rfl (us rfl (us rfl (us rfl (us rfl (us rfl (us rfl (us rfl (us rfl (us rfl (us rfl (us rfl (us rfl (us rfl (us rfl (us rfl (us rfl (us rfl (us rfl (us rfl (us rfl (us rfl (us rfl (us rfl (us rfl (us rfl (us rfl (us rfl (us rfl (us rfl (us rfl (us rfl (us rfl (us rfl (us rfl (us rfl (us rfl h5)))))))))))))))))))))))))))))))))))))))))) (.cons (us rfl (us rfl (us rfl (us rfl (us rfl (us rfl (us rfl (us rfl (us rfl (us rfl (us rfl (us rfl (us rfl (us rfl (us rfl (us rfl (us rfl (us rfl (us rfl (us rfl (us rfl (us rfl (us rfl (us rfl (us rfl (us rfl (us rfl (us rfl (us rfl (us rfl (us rfl (us rfl (us rfl (us rfl (us rfl (us rfl (us rfl (us rfl (us rfl (us rfl (us rfl (us rfl h9)))))))))))))))))))))))))))))))))))))))))) (.cons (us rfl (us rfl (us rfl (us rfl (us rfl (us rfl (us rfl (us rfl (us rfl (us rfl (us rfl (us rfl (us rfl (us rfl (us rfl (us rfl (us rfl (us rfl (us rfl uh))))))))))))))))))) (.cons (us rfl (us rfl (us rfl (us rfl (us rfl (us rfl (us rfl (us rfl (us rfl (us rfl (us rfl (us rfl (us rfl (us rfl (us rfl (us rfl (us rfl (us rfl uh)))))))))))))))))) (.cons uh .nil))))))) ?_
  rintro f ⟨h0, h4, h5, h9, h10, h11, h12, -⟩
  refine region ?_
  refine sv (yMove h0) ?_
  refine sv (yNil rfl) ?_
  refine sv (fa125_0 rfl) ?_
  refine sv (fa29_1 rfl) ?_
  refine sv (yLdB rfl Tryz.isAgg3 (hS.ext.get hb) rfl) ?_
  refine sv (yEql rfl rfl) ?_
  refine nil ?_
  show Code.wp _ _ _ _ _
  refine cond rfl (fun c152 => ?_) (fun c152 => ?_)
  ·
   simp only [BS, ne_eq] at c152
   refine region ?_
   refine sv (yMove h4) ?_
   refine sv (yMove h12) ?_
   refine sv (yAdd rfl rfl ⟨by omega, by omega⟩) ?_
   refine sv (yAsg rfl) ?_
   refine nil ?_
   exact ⟨_, rfl, h0, (rfl.trans (congrArg (Value.int .i64) (if_pos c152).symm)), h9, h10, h11, hS, trivial⟩
  ·
   simp only [BS, ne_eq] at c152
   refine region ?_
   refine sv (yMove h4) ?_
   refine sv (yMove h12) ?_
   refine sv (ySub rfl rfl ⟨by omega, by omega⟩) ?_
   refine sv (yAsg rfl) ?_
   refine nil ?_
   exact ⟨_, rfl, h0, (rfl.trans (congrArg (Value.int .i64) (if_neg c152).symm)), h9, h10, h11, hS, trivial⟩
 ·
  clear hS; rintro f w ⟨h0, h4, h9, h10, h11, hS, -⟩
  have y3 : (if g.kind = 3 then fA g p + fF g p t.outer t.inner else fA g p - fF g p t.outer t.inner).natAbs ≤ 3000000000 := by split <;> omega
  refine seq ?_
  refine region ?_
  refine sv (yMove h11) ?_
  refine sv (yMove h9) ?_
  refine sv (ySub rfl rfl ⟨by omega, by omega⟩) ?_
  refine sv (yMax rfl rfl) ?_
  refine sv (yMove h0) ?_
  refine sv (yNil rfl) ?_
  refine sv (fa125_0 rfl) ?_
  refine sv (fa29_6 rfl) ?_
  refine sv (yLdB rfl Tryz.isAgg3 (hS.ext.get hb) rfl) ?_
  refine sv (yMin rfl rfl) ?_
  refine sv (Y.to (yAsg rfl) (show Value.int .i64 _ = .int .i64 (fW g p t.outer t.inner) from rfl)) ?_
  refine nil ?_
  show Code.wp _ _ _ _ _
  refine seq ?_
  refine region_draw mixed (by kernel_rfl) hS ?_
  refine qv (fun w hS => (yMove h4)) ?_
  refine qv (fun w hS => (yMove h0)) ?_
  refine qv (fun w hS => (yNil rfl)) ?_
  refine qv (fun w hS => (fa125_0 rfl)) ?_
  refine qv (fun w hS => (fa29_8 rfl)) ?_
  refine qv (fun w hS => (yLdB rfl Tryz.isAgg3 (hS.ext.get hb) rfl)) ?_
  refine qv (fun w hS => (yMove h0)) ?_
  refine qv (fun w hS => (yNil rfl)) ?_
  refine qv (fun w hS => (fa125_2 rfl)) ?_
  refine qv (fun w hS => (fa45_2 rfl)) ?_
  refine qv (fun w hS => (yLdB rfl Tryz.isAgg3 (hS.ext.get hb) rfl)) ?_
  refine qv (fun w hS => (yMove h0)) ?_
  refine qv (fun w hS => (yNil rfl)) ?_
  refine qv (fun w hS => (fa125_2 rfl)) ?_
  refine qv (fun w hS => (fa45_3 rfl)) ?_
  refine qv (fun w hS => (yLdB rfl Tryz.isAgg3 (hS.ext.get hb) rfl)) ?_
  refine qv (fun w hS => (ySub rfl rfl ⟨by omega, by omega⟩)) ?_
  refine qv (fun w hS => (yMul rfl rfl ⟨by omega, by omega⟩)) ?_
  refine qcall Tryz.call57 (.cons rfl (.cons rfl .nil)) (fun w hS => (c_down (by omega) (by omega))) ?_
  refine qv (fun w hS => (yAdd rfl rfl ⟨by omega, by omega⟩)) ?_
  refine qv (fun w hS => (yMove h0)) ?_
  refine qv (fun w hS => (yNil rfl)) ?_
  refine qv (fun w hS => (fa125_0 rfl)) ?_
  refine qv (fun w hS => (fa29_10 rfl)) ?_
  refine qv (fun w hS => (yLdB rfl Tryz.isAgg3 (hS.ext.get hb) rfl)) ?_
  refine qv (fun w hS => (yMove h0)) ?_
  refine qv (fun w hS => (yNil rfl)) ?_
  refine qv (fun w hS => (fa125_0 rfl)) ?_
  refine qv (fun w hS => (fa29_9 rfl)) ?_
  refine qv (fun w hS => (yLdB rfl Tryz.isAgg3 (hS.ext.get hb) rfl)) ?_
  refine qv (fun w hS => (yMove h11)) ?_
  refine qv (fun w hS => (yMove h10)) ?_
  refine qv (fun w hS => (ySub rfl rfl ⟨by omega, by omega⟩)) ?_
  refine qv (fun w hS => (yMul rfl rfl ⟨by omega, by omega⟩)) ?_
  refine qv (fun w hS => (yMove rfl)) ?_
  refine qv (fun w hS => (yMul rfl rfl ⟨by omega, by omega⟩)) ?_
  refine qv (fun w hS => (yAdd rfl rfl ⟨by omega, by omega⟩)) ?_
  refine qv (fun w hS => (yQuoP rfl rfl ⟨by omega, by omega⟩ (by omega))) ?_
  refine qv (fun w hS => (yAdd rfl rfl ⟨by omega, by omega⟩)) ?_
  refine qv (fun w hS => (yAsg rfl)) ?_
  refine qv (fun w hS => (yAsg rfl)) ?_
  clear hS; refine qnil (fun w hS => ?_)
  show Code.wp _ _ _ _ _
  refine wp_ret ?_
  exact retV (res2 rfl rfl rfl) hS.ext
/-- (*barrage/gate.machine).fuel -/
theorem c_fuel {g : Gat} {qo qs : Value} {s : GSt} {t : GSp} {a x1 x2 x3 : Int} {m : Nat} {T : TypeId} {w0 : World} (hb : w0.heap[m]? = some (.cells (macL g qo qs s t x1 x2 x3).toArray T (0, 0))) (hok : GatOk g) (hs : GsOk g s) (h0 : 0 ≤ a) (h1 : a ≤ 100) : CV Tryz.prog 111 #[.pointer (some ⟨m, 0, none⟩), .int .i64 a] w0 (.int .i64 ((a * g.use + 99) / 100)) := by
 have k1 := hok.use
 have k2 := Int.mul_nonneg h0 k1.1
 have k3 := mulA 100 100000 (a := a) (b := g.use) (by omega) (by omega)
 refine enter Tryz.func111 rfl Tryz.ntmps111 rfl ?_
 have hS := St.start w0
 refine seq ?_
 refine region ?_
 refine sv (yAsg rfl) ?_
 refine nil ?_
 show Code.wp _ _ _ _ _
 refine seq ?_
 refine region ?_
 refine sv (yMove rfl) ?_
 refine sv (yMove rfl) ?_
 refine sv (yNil rfl) ?_
 refine sv (fa125_0 rfl) ?_
 refine sv (fa29_15 rfl) ?_
 refine sv (yLdB rfl Tryz.isAgg3 (hS.ext.get hb) rfl) ?_
 refine sv (yMul rfl rfl ⟨by omega, by omega⟩) ?_
 refine sv (yAdd rfl rfl ⟨by omega, by omega⟩) ?_
 refine sv (yQuoP rfl rfl ⟨by omega, by omega⟩ (by omega)) ?_
 refine sv (yAsg rfl) ?_
 refine nil ?_
 show Code.wp _ _ _ _ _
 refine wp_ret ?_
 exact retV (res1 rfl rfl) hS.ext
/-- (*barrage/gate.machine).push -/
theorem c_push {g : Gat} {qo qs : Value} {s : GSt} {t : GSp} {x1 x2 fo le : Int} {m : Nat} {w0 w : World} {L9 : List Bx.Item} (hS : StX [] w0 w (blk m (macL g qo qs s t x1 x2 0) 125 :: L9)) (hok : GatOk g) (hs : GsOk g s) (hl : 0 ≤ le ∧ le ≤ 5000) (hf : fo.natAbs ≤ 10000000000) (h2 : x2.natAbs ≤ 10000000000) : CE Tryz.prog 94 #[.pointer (some ⟨m, 0, none⟩), .int .i64 fo, .int .i64 le] w (fun u w' => u = .int .i64 (pushF g s t.power fo x2 le).1 ∧ StX [] w0 w' (blk m (macL g qo qs s t x1 x2 (pushF g s t.power fo x2 le).2) 125 :: L9)) := by
 have k1 := hok.drive; have k2 := hok.use
 obtain ⟨u1, u2⟩ := charge_bd hok hs
 obtain ⟨y1, y2, y3⟩ := go_bd hok hs hl
 obtain ⟨y4, y5⟩ := oil_bd hok hs y1 y2 y3
 refine enter Tryz.func94 rfl Tryz.ntmps94 rfl ?_
 skip
 refine seq ?_
 refine region ?_
 refine sv (yAsg rfl) ?_
 refine nil ?_
 show Code.wp _ _ _ _ _
 refine seq ?_
 refine block ?_
 refine seq ?_
 refine region ?_
 refine sv (yMove rfl) ?_
 refine sv (yMove rfl) ?_
 refine sv (yNil rfl) ?_
 refine sv (fa125_4 rfl) ?_
 refine sv (yLdB rfl Tryz.isAgg3 (hS.at _) rfl) ?_
 refine sv (yGtr rfl rfl) ?_
 refine sv (yAsg rfl) ?_
 refine nil ?_
 show Code.wp _ _ _ _ _
 refine cond rfl (fun c8 => ?_) (fun c8 => ?_)
 ·
  simp only [BS, ne_eq] at c8
  refine seq ?_
  refine region ?_
  refine sv (yMove rfl) ?_
  refine sv (yNil rfl) ?_
  refine sv (fa125_0 rfl) ?_
  refine sv (fa29_14 rfl) ?_
  refine sv (yLdB rfl Tryz.isAgg3 (hS.at _) rfl) ?_
  refine sv (yMove rfl) ?_
  refine sv (yMin rfl rfl) ?_
  refine sv (yAsg rfl) ?_
  refine nil ?_
  show Code.wp _ _ _ _ _
  refine wp_ret (blockR (thenR ?_))
  refine retQ (res1 rfl rfl) ?_
  rw [push_1 c8]
  exact ⟨rfl, hS⟩
 ·
  simp only [BS, ne_eq] at c8
  refine seq ?_
  refine region_draw mixed (by kernel_rfl) hS ?_
  refine qv (fun w hS => (yMove rfl)) ?_
  refine qv (fun w hS => (yNil rfl)) ?_
  refine qv (fun w hS => (fa125_2 rfl)) ?_
  refine qv (fun w hS => (fa45_1 rfl)) ?_
  refine qv (fun w hS => (yLdB rfl Tryz.isAgg4 (hS.at _) rfl)) ?_
  refine qv (fun w hS => (yNot rfl)) ?_
  refine qv (fun w hS => (yMove rfl)) ?_
  refine qg rfl rfl rfl (fun g w hS => (yMove rfl)) (fun v30 g30 => ?_)
  refine qg rfl rfl rfl (fun g w hS => (yMove rfl)) (fun v31 g31 => ?_)
  refine qg rfl rfl rfl (fun g w hS => (yNil (g31.1 g))) (fun v32 g32 => ?_)
  refine qg rfl rfl rfl (fun g w hS => (fa125_0 (g32.1 g))) (fun v33 g33 => ?_)
  refine qg rfl rfl rfl (fun g w hS => (fa29_11 (g33.1 g))) (fun v34 g34 => ?_)
  refine qg rfl rfl rfl (fun g w hS => (yLdB (g34.1 g) Tryz.isAgg3 (hS.at _) rfl)) (fun v35 g35 => ?_)
  refine qg rfl rfl rfl (fun g w hS => (yAdd (g30.1 g) (g35.1 g) ⟨by omega, by omega⟩)) (fun v36 g36 => ?_)
  refine qg rfl rfl rfl (fun g w hS => (yMove rfl)) (fun v37 g37 => ?_)
  refine qg rfl rfl rfl (fun g w hS => (yNil (g37.1 g))) (fun v38 g38 => ?_)
  refine qg rfl rfl rfl (fun g w hS => (fa125_4 (g38.1 g))) (fun v39 g39 => ?_)
  refine qg rfl rfl rfl (fun g w hS => (yLdB (g39.1 g) Tryz.isAgg3 (hS.at _) rfl)) (fun v40 g40 => ?_)
  refine qg rfl rfl rfl (fun g w hS => (yLeq (g36.1 g) (g40.1 g))) (fun v41 g41 => ?_)
  refine qv (fun w hS => (yOr rfl rfl (fun hB => (g41.1 hB)))) ?_
  refine qv (fun w hS => (yAsg rfl)) ?_
  clear hS; refine qnil (fun w hS => ?_)
  show Code.wp _ _ _ _ _
  refine cond rfl (fun c22 => ?_) (fun c22 => ?_)
  ·
   refine seq ?_
   refine region ?_
   refine sv (yAsg rfl) ?_
   refine nil ?_
   show Code.wp _ _ _ _ _
   refine wp_ret (blockR (thenR ?_))
   refine retQ (res1 rfl rfl) ?_
   rw [push_2 c8 c22]
   exact ⟨rfl, hS⟩
  ·
   refine skip ?_
   show Code.wp _ _ _ _ _
   refine seq ?_
   refine region ?_
   refine sv (yMove rfl) ?_
   refine sv (yNil rfl) ?_
   refine sv (fa125_0 rfl) ?_
   refine sv (fa29_13 rfl) ?_
   refine sv (yLdB rfl Tryz.isAgg3 (hS.at _) rfl) ?_
   refine sv (yMove rfl) ?_
   refine sv (yMin rfl rfl) ?_
   refine sv (yAsg rfl) ?_
   refine nil ?_
   show Code.wp _ _ _ _ _
   refine seqJ (n := 77) (fun f w => f 0 = .pointer (some ⟨m, 0, none⟩) ∧ f 7 = .int .i64 (goGt g s le) ∧ StX [] w0 w (blk m (macL g qo qs s t x1 x2 0) 125 :: L9) ∧ True) ?_ ?_
   ·
    refine seq ?_
    refine region ?_
    refine sv (yMove rfl) ?_
    refine sv (yNil rfl) ?_
    refine sv (fa125_0 rfl) ?_
    refine sv (fa29_15 rfl) ?_
    refine sv (yLdB rfl Tryz.isAgg3 (hS.at _) rfl) ?_
    refine sv (yGtr rfl rfl) ?_
    refine nil ?_
    show Code.wp _ _ _ _ _
    refine cond rfl (fun c55 => ?_) (fun c55 => ?_)
    ·
     simp only [BS, ne_eq] at c55
     refine region_draw mixed (by kernel_rfl) hS ?_
     refine qv (fun w hS => (yMove rfl)) ?_
     refine qv (fun w hS => (yMove rfl)) ?_
     refine qv (fun w hS => (yNil rfl)) ?_
     refine qv (fun w hS => (fa125_1 rfl)) ?_
     refine qv (fun w hS => (fa31_1 rfl)) ?_
     refine qv (fun w hS => (yLdB rfl Tryz.isAgg3 (hS.at _) rfl)) ?_
     refine qv (fun w hS => (yMul rfl rfl ⟨by omega, by omega⟩)) ?_
     refine qv (fun w hS => (yMove rfl)) ?_
     refine qv (fun w hS => (yNil rfl)) ?_
     refine qv (fun w hS => (fa125_0 rfl)) ?_
     refine qv (fun w hS => (fa29_15 rfl)) ?_
     refine qv (fun w hS => (yLdB rfl Tryz.isAgg3 (hS.at _) rfl)) ?_
     refine qv (fun w hS => (yQuoP rfl rfl ⟨by omega, by omega⟩ (by omega))) ?_
     refine qv (fun w hS => (yMin rfl rfl)) ?_
     refine qv (fun w hS => (yAsg rfl)) ?_
     clear hS; refine qnil (fun w hS => ?_)
     exact ⟨_, rfl, rfl, (rfl.trans (congrArg (Value.int .i64) (if_pos c55).symm)), hS, trivial⟩
    ·
     simp only [BS, ne_eq] at c55
     refine skip ?_
     exact ⟨_, rfl, rfl, (rfl.trans (congrArg (Value.int .i64) (if_neg c55).symm)), hS, trivial⟩
   ·
    clear hS; rintro f w ⟨h0, h7, hS, -⟩
    refine seq ?_
    refine region ?_
    refine sv (yMove h0) ?_
    refine sv (yMove h0) ?_
    refine sv (yMove h7) ?_
    refine scall Tryz.call111 (.cons rfl (.cons rfl .nil)) (c_fuel (hS.at m) hok hs y1 y2) ?_
    rintro _ w ⟨rfl, hE⟩; replace hS := hS.step hE; clear hE
    refine sv (yNil rfl) ?_
    refine sv (fa125_5 rfl) ?_
    refine sst hS rfl rfl Tryz.sizeOf3 rfl rfl rfl rfl ?_; clear hS; intro w hS
    refine nil ?_
    show Code.wp _ _ _ _ _
    refine seq ?_
    refine region ?_
    refine sv (yMove h7) ?_
    refine sv (yAsg rfl) ?_
    refine nil ?_
    show Code.wp _ _ _ _ _
    refine wp_ret ?_
    refine retQ (res1 rfl rfl) ?_
    rw [push_3 c8 c22]
    exact ⟨rfl, hS⟩
/-- (*barrage/gate.machine).shut -/
theorem c_shut {g : Gat} {qo qs : Value} {s : GSt} {t : GSp} {x1 x2 : Int} {m : Nat} {w0 w : World} {L9 : List Bx.Item} (hS : StX [] w0 w (blk m (macL g qo qs s t x1 x2 0) 125 :: L9)) (hok : GatOk g) (hs : GsOk g s) (hf : x1.natAbs ≤ 10000000000) (h2 : x2.natAbs ≤ 10000000000) : CE Tryz.prog 71 #[.pointer (some ⟨m, 0, none⟩)] w (fun u w' => u = .int .i64 (pushF g s t.power x1 x2 (g.travel - s.pos)).1 ∧ StX [] w0 w' (blk m (macL g qo qs s t x1 x2 (pushF g s t.power x1 x2 (g.travel - s.pos)).2) 125 :: L9)) := by
 have k1 := hok.trav
 have k2 := hs.pos
 refine enter Tryz.func71 rfl Tryz.ntmps71 rfl ?_
 skip
 refine seq ?_
 refine region ?_
 refine sv (yAsg rfl) ?_
 refine nil ?_
 show Code.wp _ _ _ _ _
 refine seq ?_
 refine region_tail mixed 16 (by kernel_rfl) hS ?_
 refine qv (fun w hS => (yMove rfl)) ?_
 refine qv (fun w hS => (yMove rfl)) ?_
 refine qv (fun w hS => (yNil rfl)) ?_
 refine qv (fun w hS => (fa125_3 rfl)) ?_
 refine qv (fun w hS => (yLdB rfl Tryz.isAgg3 (hS.at _) rfl)) ?_
 refine qv (fun w hS => (yMove rfl)) ?_
 refine qv (fun w hS => (yNil rfl)) ?_
 refine qv (fun w hS => (fa125_0 rfl)) ?_
 refine qv (fun w hS => (fa29_2 rfl)) ?_
 refine qv (fun w hS => (yLdB rfl Tryz.isAgg3 (hS.at _) rfl)) ?_
 refine qv (fun w hS => (yMove rfl)) ?_
 refine qv (fun w hS => (yNil rfl)) ?_
 refine qv (fun w hS => (fa125_1 rfl)) ?_
 refine qv (fun w hS => (fa31_0 rfl)) ?_
 refine qv (fun w hS => (yLdB rfl Tryz.isAgg3 (hS.at _) rfl)) ?_
 refine qv (fun w hS => (ySub rfl rfl ⟨by omega, by omega⟩)) ?_
 clear hS; refine qtl (fun w hS => ?_)
 refine scall Tryz.call94 (.cons rfl (.cons rfl (.cons rfl .nil))) (c_push hS hok hs (by omega) hf h2) ?_
 rintro _ w ⟨rfl, hS⟩
 refine sv (yAsg rfl) ?_
 refine nil ?_
 show Code.wp _ _ _ _ _
 refine wp_ret ?_
 refine retQ (res1 rfl rfl) ?_
 exact ⟨rfl, hS⟩
/-- barrage/gate.do -/
theorem c_do {g : Gat} {qo qs : Value} {s : GSt} {t : GSp} {e : Int} {w0 : World} (hw : Sl w0 1 RInt qo g.own) (hok : GatOk g) (hs : GsOk g s) (ho : -20000 ≤ t.outer ∧ t.outer ≤ 20000) (hi : -20000 ≤ t.inner ∧ t.inner ≤ 20000) (hord : t.order = 1) (he : e = 0 ∨ s.bolted = true) : CV Tryz.prog 56 #[.agg (gatL g qo qs).toArray, .agg (gstC s).toArray, .agg (gspC t).toArray, .int .i64 e] w0 (.tuple #[.agg (gstC (doF g s t)).toArray, .agg [.int .i64 e, .int .i64 (cmF g s t).1, .int .i64 (cmF g s t).2].toArray]) := by
 have k1 := hok.trav; have k2 := hs.pos; have k3 := hs.charge; have k4 := hok.pump; have k5 := hok.room
 obtain ⟨n1, n2, n3⟩ := net_bd hok hs.pos ho hi
 obtain ⟨z1, z2, z3, z4, z5⟩ := do_ok hok hs t
 refine enter Tryz.func56 rfl Tryz.ntmps56 rfl ?_
 have hS := St.start w0
 refine seq ?_
 refine region ?_
 refine sbox hS rfl rfl ?_; clear hS; intro b4 w hS
 refine sbox hS rfl rfl ?_; clear hS; intro b5 w hS
 refine sbox hS rfl rfl ?_; clear hS; intro b6 w hS
 refine salloc hS Tryz.zeroValue31 rfl ?_; clear hS; intro b8 w hS
 refine salloc hS Tryz.zeroValue84 rfl ?_; clear hS; intro b9 w hS
 refine nil ?_
 show Code.wp _ _ _ _ _
 refine seq ?_
 refine region ?_
 refine sv (yLdBA rfl Tryz.isAgg29 Tryz.sizeOf29 (hS.at _) rfl rfl) ?_
 refine sv (yLdBA rfl Tryz.isAgg31 Tryz.sizeOf31 (hS.at _) rfl rfl) ?_
 refine sv (yLdBA rfl Tryz.isAgg45 Tryz.sizeOf45 (hS.at _) rfl rfl) ?_
 refine sv (yBuild Tryz.zeroValue125 rfl pl125 (.cons rfl rfl (.cons rfl rfl (.cons rfl rfl .nil))) rfl) ?_
 refine sbox hS rfl rfl ?_; clear hS; intro b17 w hS
 refine sv (yAsg rfl) ?_
 refine nil ?_
 show Code.wp _ _ _ _ _
 refine seq ?_
 refine region ?_
 refine sv (yMove rfl) ?_
 refine sv (yMove rfl) ?_
 refine sv (yMove rfl) ?_
 refine sv (fa31_0 rfl) ?_
 refine sv (yLdB rfl Tryz.isAgg3 (hS.at _) rfl) ?_
 refine scall Tryz.call28 (.cons rfl (.cons rfl .nil)) (c_forces (hS.at b17) (hw.ext RInt.stays hS.ext) hok hs.pos ho hi) ?_
 rintro _ w ⟨rfl, hE⟩; replace hS := hS.step hE; clear hE
 refine sv (yMove rfl) ?_
 refine sv (yExt rfl rfl) ?_
 refine sv (yExt rfl rfl) ?_
 refine sv (yNil rfl) ?_
 refine sv (fa125_3 rfl) ?_
 refine sst hS rfl rfl Tryz.sizeOf3 rfl rfl rfl rfl ?_; clear hS; intro w hS
 refine sv (yNil rfl) ?_
 refine sv (fa125_4 rfl) ?_
 refine sst hS rfl rfl Tryz.sizeOf3 rfl rfl rfl rfl ?_; clear hS; intro w hS
 refine nil ?_
 show Code.wp _ _ _ _ _
 refine seq ?_
 refine region ?_
 refine sv (yAsg rfl) ?_
 refine nil ?_
 show Code.wp _ _ _ _ _
 refine seqJ (n := 80) (fun f w => ∃ (q : Nat), f 3 = .int .i64 e ∧ f 4 = .pointer (some ⟨b4, 0, none⟩) ∧ f 5 = .pointer (some ⟨b5, 0, none⟩) ∧ f 6 = .pointer (some ⟨b6, 0, none⟩) ∧ f 8 = .pointer (some ⟨b8, 0, none⟩) ∧ f 9 = .pointer (some ⟨b9, 0, none⟩) ∧ f 10 = .pointer (some ⟨b17, 0, none⟩) ∧ f 11 = .func (.func q) #[] #[] ∧ StX [] w0 w (blk b17 (macL g qo qs s t (netF g s.pos t.outer t.inner) (rubF g s.pos t.outer t.inner) 0) 125 :: blk b9 [.int .i64 0, .int .i64 0, .int .i64 0] 84 :: blk b8 (gstC ⟨0, 0, false⟩) 31 :: blk b6 (gspC t) 45 :: blk b5 (gstC s) 31 :: blk b4 (gatL g qo qs) 29 :: ([] : List Bx.Item)) ∧ (s.bolted = false → q = 71) ∧ True) ?_ ?_
 ·
  refine block ?_
  refine seq ?_
  refine region ?_
  refine sv (yMove rfl) ?_
  refine sv (yNeq rfl rfl) ?_
  refine sv (yAsg rfl) ?_
  refine nil ?_
  show Code.wp _ _ _ _ _
  refine cond rfl (fun c31 => ?_) (fun c31 => ?_)
  ·
   simp only [BS, ne_eq] at c31
   refine skip ?_
   exact ⟨_, rfl, 70, rfl, rfl, rfl, rfl, rfl, rfl, rfl, rfl, hS, (fun k => absurd (he.resolve_right (by rw [k]; decide)) c31), trivial⟩
  ·
   simp only [BS, ne_eq] at c31
   refine seq ?_
   refine region ?_
   refine sv (fa45_0 rfl) ?_
   refine sv (yLdB rfl Tryz.isAgg3 (hS.at _) rfl) ?_
   refine sv (yEql rfl rfl) ?_
   refine sv (yAsg rfl) ?_
   refine nil ?_
   show Code.wp _ _ _ _ _
   refine cond rfl (fun c34 => ?_) (fun c34 => ?_)
   ·
    simp only [BS, ne_eq] at c34
    refine region ?_
    refine sv (yAsg rfl) ?_
    refine nil ?_
    exact ⟨_, rfl, 71, rfl, rfl, rfl, rfl, rfl, rfl, rfl, rfl, hS, (fun _ => rfl), trivial⟩
   ·
    simp only [BS, ne_eq] at c34
    exact absurd hord c34
 ·
  clear hS; rintro f w ⟨q, h3, h4, h5, h6, h8, h9, h10, h11, hS, hq, -⟩
  refine seq ?_
  refine region ?_
  refine sv (yAsg rfl) ?_
  refine nil ?_
  show Code.wp _ _ _ _ _
  refine seqJ (n := 80) (fun f w => f 3 = .int .i64 e ∧ f 4 = .pointer (some ⟨b4, 0, none⟩) ∧ f 5 = .pointer (some ⟨b5, 0, none⟩) ∧ f 6 = .pointer (some ⟨b6, 0, none⟩) ∧ f 8 = .pointer (some ⟨b8, 0, none⟩) ∧ f 9 = .pointer (some ⟨b9, 0, none⟩) ∧ f 10 = .pointer (some ⟨b17, 0, none⟩) ∧ f 12 = .int .i64 (cmF g s t).1 ∧ StX [] w0 w (blk b17 (macL g qo qs s t (netF g s.pos t.outer t.inner) (rubF g s.pos t.outer t.inner) (cmF g s t).2) 125 :: blk b9 [.int .i64 0, .int .i64 0, .int .i64 0] 84 :: blk b8 (gstC ⟨0, 0, false⟩) 31 :: blk b6 (gspC t) 45 :: blk b5 (gstC s) 31 :: blk b4 (gatL g qo qs) 29 :: ([] : List Bx.Item)) ∧ True) ?_ ?_
  ·
   refine seq ?_
   refine region ?_
   refine sv (fa31_2 h5) ?_
   refine sv (yLdB rfl Tryz.isAgg4 (hS.at _) rfl) ?_
   refine sv (yNot rfl) ?_
   refine nil ?_
   show Code.wp _ _ _ _ _
   refine cond rfl (fun c44 => ?_) (fun c44 => ?_)
   ·
    simp only [BS, ne_eq] at c44
    have hbo : s.bolted = false := by simpa using c44
    obtain rfl := hq hbo
    have hcm : cmF g s t = pushF g s t.power (netF g s.pos t.outer t.inner) (rubF g s.pos t.outer t.inner) (g.travel - s.pos) := by unfold cmF; rw [if_neg (by rw [hbo]; decide)]
    refine region ?_
    refine sv (yMove h11) ?_
    refine sv (yMove h10) ?_
    refine scallf rfl Tryz.call71 (.cons rfl .nil) (c_shut hS hok hs n1 (by omega)) ?_
    rintro _ w ⟨rfl, hS⟩
    refine sv (yAsg rfl) ?_
    refine nil ?_
    exact ⟨_, rfl, h3, h4, h5, h6, h8, h9, h10, (by rw [hcm]; exact rfl), (by rw [hcm]; exact hS), trivial⟩
   ·
    simp only [BS, ne_eq] at c44
    have hbo : s.bolted = true := by simpa using c44
    have hcm : cmF g s t = (0, 0) := by unfold cmF; rw [if_pos hbo]
    refine skip ?_
    exact ⟨_, rfl, h3, h4, h5, h6, h8, h9, h10, (by rw [hcm]; exact rfl), (by rw [hcm]; exact hS), trivial⟩
  ·
   clear hS; rintro f w ⟨h3, h4, h5, h6, h8, h9, h10, h12, hS, -⟩
   refine seq ?_
   refine region ?_
   refine sv (fa31_0 h5) ?_
   refine sv (yLdB rfl Tryz.isAgg3 (hS.at _) rfl) ?_
   refine sv (yMove h12) ?_
   refine sv (yAdd rfl rfl ⟨by omega, by omega⟩) ?_
   refine sv (fa31_0 h5) ?_
   refine sst hS rfl rfl Tryz.sizeOf3 rfl rfl rfl rfl ?_; clear hS; intro w hS
   refine nil ?_
   show Code.wp _ _ _ _ _
   refine seqJ (n := 80) (fun f w => f 3 = .int .i64 e ∧ f 4 = .pointer (some ⟨b4, 0, none⟩) ∧ f 5 = .pointer (some ⟨b5, 0, none⟩) ∧ f 6 = .pointer (some ⟨b6, 0, none⟩) ∧ f 8 = .pointer (some ⟨b8, 0, none⟩) ∧ f 9 = .pointer (some ⟨b9, 0, none⟩) ∧ f 10 = .pointer (some ⟨b17, 0, none⟩) ∧ f 12 = .int .i64 (cmF g s t).1 ∧ StX [] w0 w (blk b17 (macL g qo qs s t (netF g s.pos t.outer t.inner) (rubF g s.pos t.outer t.inner) (cmF g s t).2) 125 :: blk b9 [.int .i64 0, .int .i64 0, .int .i64 0] 84 :: blk b8 (gstC ⟨0, 0, false⟩) 31 :: blk b6 (gspC t) 45 :: blk b5 (gstC ⟨s.pos + (cmF g s t).1, s.charge - (cmF g s t).2, s.bolted⟩) 31 :: blk b4 (gatL g qo qs) 29 :: ([] : List Bx.Item)) ∧ True) ?_ ?_
   ·
    refine region_tail mixed 8 (by kernel_rfl) hS ?_
    refine qv (fun w hS => (fa31_1 h5)) ?_
    refine qv (fun w hS => (yLdB rfl Tryz.isAgg3 (hS.at _) rfl)) ?_
    refine qv (fun w hS => (yMove h10)) ?_
    refine qv (fun w hS => (yNil rfl)) ?_
    refine qv (fun w hS => (fa125_5 rfl)) ?_
    refine qv (fun w hS => (yLdB rfl Tryz.isAgg3 (hS.at _) rfl)) ?_
    refine qv (fun w hS => (ySub rfl rfl ⟨by omega, by omega⟩)) ?_
    refine qv (fun w hS => (fa31_1 h5)) ?_
    clear hS; refine qtl (fun w hS => ?_)
    refine sst hS rfl rfl Tryz.sizeOf3 rfl rfl rfl rfl ?_; clear hS; intro w hS
    refine nil ?_
    exact ⟨_, rfl, h3, h4, h5, h6, h8, h9, h10, h12, hS, trivial⟩
   ·
    clear hS; rintro f w ⟨h3, h4, h5, h6, h8, h9, h10, h12, hS, -⟩
    refine seqJ (n := 80) (fun f w => f 3 = .int .i64 e ∧ f 4 = .pointer (some ⟨b4, 0, none⟩) ∧ f 5 = .pointer (some ⟨b5, 0, none⟩) ∧ f 6 = .pointer (some ⟨b6, 0, none⟩) ∧ f 8 = .pointer (some ⟨b8, 0, none⟩) ∧ f 9 = .pointer (some ⟨b9, 0, none⟩) ∧ f 10 = .pointer (some ⟨b17, 0, none⟩) ∧ f 12 = .int .i64 (cmF g s t).1 ∧ StX [] w0 w (blk b17 (macL g qo qs s t (netF g s.pos t.outer t.inner) (rubF g s.pos t.outer t.inner) (cmF g s t).2) 125 :: blk b9 [.int .i64 0, .int .i64 0, .int .i64 0] 84 :: blk b8 (gstC ⟨0, 0, false⟩) 31 :: blk b6 (gspC t) 45 :: blk b5 (gstC (doF g s t)) 31 :: blk b4 (gatL g qo qs) 29 :: ([] : List Bx.Item)) ∧ True) ?_ ?_
    ·
     refine seq ?_
     refine region ?_
     refine sv (fa45_1 h6) ?_
     refine sv (yLdB rfl Tryz.isAgg4 (hS.at _) rfl) ?_
     refine nil ?_
     show Code.wp _ _ _ _ _
     refine cond rfl (fun c62 => ?_) (fun c62 => ?_)
     ·
      refine region ?_
      refine sv (fa31_1 h5) ?_
      refine sv (yLdB rfl Tryz.isAgg3 (hS.at _) rfl) ?_
      refine sv (fa29_16 h4) ?_
      refine sv (yLdB rfl Tryz.isAgg3 (hS.at _) rfl) ?_
      refine sv (yAdd rfl rfl (show I64 (s.charge - (cmF g s t).2 + g.pump) from ⟨by omega, by omega⟩)) ?_
      refine sv (fa29_17 h4) ?_
      refine sv (yLdB rfl Tryz.isAgg3 (hS.at _) rfl) ?_
      refine sv (yMin rfl rfl) ?_
      refine sv (fa31_1 h5) ?_
      refine sst hS rfl rfl Tryz.sizeOf3 rfl rfl rfl rfl ?_; clear hS; intro w hS
      refine nil ?_
      exact ⟨_, rfl, h3, h4, h5, h6, h8, h9, h10, h12, (by rw [show doF g s t = ⟨s.pos + (cmF g s t).1, min (s.charge - (cmF g s t).2 + g.pump) g.room, s.bolted⟩ from by unfold doF; rw [if_pos c62]]; exact hS), trivial⟩
     ·
      refine skip ?_
      exact ⟨_, rfl, h3, h4, h5, h6, h8, h9, h10, h12, (by rw [show doF g s t = ⟨s.pos + (cmF g s t).1, s.charge - (cmF g s t).2, s.bolted⟩ from by unfold doF; rw [if_neg (by rw [c62]; decide)]]; exact hS), trivial⟩
    ·
     clear hS; rintro f w ⟨h3, h4, h5, h6, h8, h9, h10, h12, hS, -⟩
     refine seq ?_
     refine region_m (fun w => StX [] w0 w (blk b17 (macL g qo qs s t (netF g s.pos t.outer t.inner) (rubF g s.pos t.outer t.inner) (cmF g s t).2) 125 :: blk b5 (gstC (doF g s t)) 31 :: ([] : List Bx.Item))) (fun _ => True) [] [] mixed (fun c a a' w h => by obtain ⟨_, v, hv, _⟩ := h; cases hv) hS ?_; clear hS; intro w hS
     refine mq 1 0 [] (by kernel_rfl) rfl (by refine hS.sub ?_; repeat first | exact List.Sublist.refl _ | exact List.nil_sublist _ | apply List.Sublist.cons_cons | apply List.Sublist.cons) (fun w hS => (yLdBA h5 Tryz.isAgg31 Tryz.sizeOf31 (hS.at _) rfl rfl)) ?_
     refine mq 0 1 [] (by kernel_rfl) rfl trivial (fun w hS => (yMove h3)) ?_
     refine mq 0 2 [] (by kernel_rfl) rfl trivial (fun w hS => (yMove h12)) ?_
     refine mq 0 3 [] (by kernel_rfl) rfl trivial (fun w hS => (yMove h10)) ?_
     refine mq 0 4 [] (by kernel_rfl) rfl trivial (fun w hS => (yNil rfl)) ?_
     refine mq 0 5 [] (by kernel_rfl) rfl trivial (fun w hS => (fa125_5 rfl)) ?_
     refine mq 1 6 [] (by kernel_rfl) rfl (by refine hS.sub ?_; repeat first | exact List.Sublist.refl _ | exact List.nil_sublist _ | apply List.Sublist.cons_cons | apply List.Sublist.cons) (fun w hS => (yLdB rfl Tryz.isAgg3 (hS.at _) rfl)) ?_
     refine mq 0 7 [] (by kernel_rfl) rfl trivial (fun w hS => (yBuild Tryz.zeroValue84 rfl pl84 (.cons rfl rfl (.cons rfl rfl (.cons rfl rfl .nil))) rfl)) ?_
     refine m1 8 (by kernel_rfl) rfl ?_
     refine sst hS h8 rfl Tryz.sizeOf31 rfl rfl rfl rfl ?_; clear hS; intro w hS
     refine nil ⟨⟨fun _ _ => (by refine hS.sub ?_; repeat first | exact List.Sublist.refl _ | exact List.nil_sublist _ | apply List.Sublist.cons_cons | apply List.Sublist.cons), fun _ _ => trivial⟩, mw ?_⟩
     refine m1 9 (by kernel_rfl) rfl ?_
     refine sst hS h9 rfl Tryz.sizeOf84 rfl rfl rfl rfl ?_; clear hS; intro w hS
     refine nil ⟨⟨fun _ _ => (by refine hS.sub ?_; repeat first | exact List.Sublist.refl _ | exact List.nil_sublist _ | apply List.Sublist.cons_cons | apply List.Sublist.cons), fun _ _ => trivial⟩, mw ?_⟩
     refine me (by kernel_rfl) ?_
     show Code.wp _ _ _ _ _
     refine wp_ret ?_
     exact retV (resV2 rfl (rc h8 Tryz.isAgg31 Tryz.sizeOf31 (hS.at _) rfl rfl) (rc h9 Tryz.isAgg84 Tryz.sizeOf84 (hS.at _) rfl rfl)) hS.ext
/-- barrage/gate.alone -/
theorem c_alone {g : Gat} {qo qs : Value} {s : GSt} {t : GSp} {w0 : World} (hw : Sl w0 1 RInt qo g.own) (hok : GatOk g) (hs : GsOk g s) (ho : -20000 ≤ t.outer ∧ t.outer ≤ 20000) (hi : -20000 ≤ t.inner ∧ t.inner ≤ 20000) (hord : t.order = 1) : CV Tryz.prog 26 #[.agg (gatL g qo qs).toArray, .agg (gstC s).toArray, .agg (gspC t).toArray] w0 (.tuple #[.agg (gstC (doF g s t)).toArray, .agg [.int .i64 (if s.bolted = true then 130 else 0), .int .i64 (cmF g s t).1, .int .i64 (cmF g s t).2].toArray]) := by
 refine enter Tryz.func26 rfl Tryz.ntmps26 rfl ?_
 have hS := St.start w0
 refine seq ?_
 refine region ?_
 refine sbox hS rfl rfl ?_; clear hS; intro b3 w hS
 refine sbox hS rfl rfl ?_; clear hS; intro b4 w hS
 refine sbox hS rfl rfl ?_; clear hS; intro b5 w hS
 refine salloc hS Tryz.zeroValue31 rfl ?_; clear hS; intro b6 w hS
 refine salloc hS Tryz.zeroValue84 rfl ?_; clear hS; intro b7 w hS
 refine nil ?_
 show Code.wp _ _ _ _ _
 refine seq ?_
 refine region ?_
 refine sv (yAsg rfl) ?_
 refine nil ?_
 show Code.wp _ _ _ _ _
 refine seqJ (n := 23) (fun f w => f 3 = .pointer (some ⟨b3, 0, none⟩) ∧ f 4 = .pointer (some ⟨b4, 0, none⟩) ∧ f 5 = .pointer (some ⟨b5, 0, none⟩) ∧ f 6 = .pointer (some ⟨b6, 0, none⟩) ∧ f 7 = .pointer (some ⟨b7, 0, none⟩) ∧ f 8 = .int .i64 (if s.bolted = true then 130 else 0) ∧ StX [] w0 w (blk b7 [.int .i64 0, .int .i64 0, .int .i64 0] 84 :: blk b6 (gstC ⟨0, 0, false⟩) 31 :: blk b5 (gspC t) 45 :: blk b4 (gstC s) 31 :: blk b3 (gatL g qo qs) 29 :: ([] : List Bx.Item)) ∧ True) ?_ ?_
 ·
  refine seq ?_
  refine region ?_
  refine sv (fa31_2 rfl) ?_
  refine sv (yLdB rfl Tryz.isAgg4 (hS.at _) rfl) ?_
  refine sv (yMove rfl) ?_
  refine sg rfl rfl rfl (fun g => (fa45_0 rfl)) (fun v12 g12 => ?_)
  refine sg rfl rfl rfl (fun g => (yLdB (g12.1 g) Tryz.isAgg3 (hS.at _) rfl)) (fun v13 g13 => ?_)
  refine sg rfl rfl rfl (fun g => (yNeq (g13.1 g) rfl)) (fun v14 g14 => ?_)
  refine sv (yAnd rfl (fun hB => (g14.1 hB)) rfl) ?_
  refine nil ?_
  show Code.wp _ _ _ _ _
  refine cond rfl (fun c15 => ?_) (fun c15 => ?_)
  ·
   refine region ?_
   refine sv (yAsg rfl) ?_
   refine nil ?_
   exact ⟨_, rfl, rfl, rfl, rfl, rfl, rfl, (rfl.trans (congrArg (Value.int .i64) (if_pos (by rw [Bool.and_eq_true] at c15; exact c15.1)).symm)), hS, trivial⟩
  ·
   refine skip ?_
   exact ⟨_, rfl, rfl, rfl, rfl, rfl, rfl, (rfl.trans (congrArg (Value.int .i64) (if_neg (by rw [hord] at c15; simpa using c15)).symm)), hS, trivial⟩
 ·
  clear hS; rintro f w ⟨h3, h4, h5, h6, h7, h8, hS, -⟩
  refine seq ?_
  refine region ?_
  refine sv (yLdBA h3 Tryz.isAgg29 Tryz.sizeOf29 (hS.at _) rfl rfl) ?_
  refine sv (yLdBA h4 Tryz.isAgg31 Tryz.sizeOf31 (hS.at _) rfl rfl) ?_
  refine sv (yLdBA h5 Tryz.isAgg45 Tryz.sizeOf45 (hS.at _) rfl rfl) ?_
  refine sv (yMove h8) ?_
  refine scall Tryz.call56 (.cons rfl (.cons rfl (.cons rfl (.cons rfl .nil)))) (c_do (hw.ext RInt.stays hS.ext) hok hs ho hi hord (by by_cases k : s.bolted = true; exact .inr k; exact .inl (if_neg k))) ?_
  rintro _ w ⟨rfl, hE⟩; replace hS := hS.step hE; clear hE
  refine sv (yExt rfl rfl) ?_
  refine sv (yExt rfl rfl) ?_
  refine sst hS h6 rfl Tryz.sizeOf31 rfl rfl rfl rfl ?_; clear hS; intro w hS
  refine sst hS h7 rfl Tryz.sizeOf84 rfl rfl rfl rfl ?_; clear hS; intro w hS
  refine nil ?_
  show Code.wp _ _ _ _ _
  refine wp_ret ?_
  exact retV (resV2 rfl (rc h6 Tryz.isAgg31 Tryz.sizeOf31 (hS.at _) rfl rfl) (rc h7 Tryz.isAgg84 Tryz.sizeOf84 (hS.at _) rfl rfl)) hS.ext
/-- barrage/gate.Run -/
theorem c_RunG {g : Gat} {qo qs v : Value} {s : GSt} {l : List GSp} {w0 : World} (h : RGatP w0 g qo qs) (hl : Sl w0 4 RGsp v l) (hord : ∀ t ∈ l, t.order = 1) : CE Tryz.prog 7 #[.agg (gatL g qo qs).toArray, .agg (gstC s).toArray, v] w0 (fun u w' => ∃ rv, u = .tuple #[rv, .int .i64 (runE g s l)] ∧ St w0 w' [rowI rv 31 3 (runO g s l).length ((runO g s l).flatMap gstC)]) := by
 obtain ⟨ao, co, rfl, -⟩ := id h.own
 obtain ⟨az, cz, rfl, -⟩ := id h.sens
 obtain ⟨al, cl, rfl, -⟩ := id hl
 refine enter Tryz.func7 rfl Tryz.ntmps7 rfl ?_
 have hS := St.start w0
 refine seq ?_
 refine region ?_
 refine sbox hS rfl rfl ?_; clear hS; intro b3 w hS
 refine sbox hS rfl rfl ?_; clear hS; intro b4 w hS
 refine sv (yAsg rfl) ?_
 refine sv (yAsg rfl) ?_
 refine nil ?_
 show Code.wp _ _ _ _ _
 refine seq ?_
 refine seq ?_
 refine region ?_
 refine sv (yLdBA rfl Tryz.isAgg29 Tryz.sizeOf29 (hS.at _) rfl rfl) ?_
 refine scall Tryz.call23 (.cons rfl .nil) (c_Check (h.ext hS.ext)) ?_
 rintro _ w ⟨ka, kb, rfl, hE⟩; replace hS := hS.step hE; clear hE
 refine sv (yMove rfl) ?_
 refine sv (yExt rfl rfl) ?_
 refine sv (yExt rfl rfl) ?_
 refine sv (yExt rfl rfl) ?_
 refine sv (yAsg rfl) ?_
 refine nil ?_
 show Code.wp _ _ _ _ _
 refine seq ?_
 refine region ?_
 refine sv (yMove rfl) ?_
 refine sv (yNeq rfl rfl) ?_
 refine nil ?_
 show Code.wp _ _ _ _ _
 refine cond rfl (fun c17 => ?_) (fun c17 => ?_)
 ·
  simp only [BS, ne_eq] at c17
  refine seq ?_
  refine region ?_
  refine sv (yMove rfl) ?_
  refine sv (yAsg rfl) ?_
  refine sv (yAsg rfl) ?_
  refine nil ?_
  show Code.wp _ _ _ _ _
  refine wp_ret (thenR ?_)
  refine retQ (res2 rfl rfl rfl) ?_
  have hz : runE g s l = chkG g := by unfold runE; rw [if_pos c17]
  have hn : runE g s l ≠ 0 := by rw [hz]; exact c17
  refine ⟨_, congrArg (fun z => Value.tuple #[_, .int .i64 z]) hz.symm, ?_⟩
  rw [run_no hn]
  exact (hS.sub (List.nil_sublist _)).nilrow 31 3
 ·
  simp only [BS, ne_eq] at c17
  have hok := gat_ok g c17
  have k1 := hok.trav
  refine skip ?_
  show Code.wp _ _ _ _ _
  refine seq ?_
  refine seq ?_
  refine region ?_
  refine sv (yMove rfl) ?_
  refine sv (yLen rfl Tryz.underlying43) ?_
  refine sv (yGtr rfl rfl) ?_
  refine nil ?_
  show Code.wp _ _ _ _ _
  refine cond rfl (fun c21 => ?_) (fun c21 => ?_)
  ·
   simp only [BS, ne_eq] at c21
   refine seq ?_
   refine region ?_
   refine sv (yAsg rfl) ?_
   refine sv (yAsg rfl) ?_
   refine nil ?_
   show Code.wp _ _ _ _ _
   refine wp_ret (thenR ?_)
   refine retQ (res2 rfl rfl rfl) ?_
   have hz : runE g s l = 3 := by unfold runE; rw [if_neg (fun k => k c17), if_pos c21]
   have hn : runE g s l ≠ 0 := by rw [hz]; decide
   refine ⟨_, congrArg (fun z => Value.tuple #[_, .int .i64 z]) hz.symm, ?_⟩
   rw [run_no hn]
   exact (hS.sub (List.nil_sublist _)).nilrow 31 3
  ·
   simp only [BS, ne_eq] at c21
   refine skip ?_
   show Code.wp _ _ _ _ _
   refine seq ?_
   refine seq ?_
   refine region ?_
   refine sv (yLdBA rfl Tryz.isAgg29 Tryz.sizeOf29 (hS.at _) rfl rfl) ?_
   refine sv (yLdBA rfl Tryz.isAgg31 Tryz.sizeOf31 (hS.at _) rfl rfl) ?_
   refine scall Tryz.call24 (.cons rfl (.cons rfl .nil)) c_lost ?_
   rintro _ w ⟨rfl, hE⟩; replace hS := hS.step hE; clear hE
   refine sv (yAsg rfl) ?_
   refine nil ?_
   show Code.wp _ _ _ _ _
   refine seq ?_
   refine region ?_
   refine sv (yMove rfl) ?_
   refine sv (yNeq rfl rfl) ?_
   refine nil ?_
   show Code.wp _ _ _ _ _
   refine cond rfl (fun c26 => ?_) (fun c26 => ?_)
   ·
    simp only [BS, ne_eq] at c26
    refine seq ?_
    refine region ?_
    refine sv (yMove rfl) ?_
    refine sv (yAsg rfl) ?_
    refine sv (yAsg rfl) ?_
    refine nil ?_
    show Code.wp _ _ _ _ _
    refine wp_ret (thenR ?_)
    refine retQ (res2 rfl rfl rfl) ?_
    have hz : runE g s l = lostE g s := by unfold runE; rw [if_neg (fun k => k c17), if_neg c21, if_pos c26]
    have hn : runE g s l ≠ 0 := by rw [hz]; exact c26
    refine ⟨_, congrArg (fun z => Value.tuple #[_, .int .i64 z]) hz.symm, ?_⟩
    rw [run_no hn]
    exact (hS.sub (List.nil_sublist _)).nilrow 31 3
   ·
    simp only [BS, ne_eq] at c26
    have hgs := lost_iff.1 c26
    have hrE : runE g s l = fstE stepE l := by unfold runE; rw [if_neg (fun k => k c17), if_neg c21, if_neg (fun k => k c26)]
    refine skip ?_
    show Code.wp _ _ _ _ _
    refine seq ?_
    refine seq ?_
    refine region ?_
    refine sv (yMove rfl) ?_
    refine sv (yLen rfl Tryz.underlying43) ?_
    refine sv (yMove rfl) ?_
    refine nil ?_
    show Code.wp _ _ _ _ _
    refine block ?_
    refine loop (fun f w zz => ∃ (i : Nat) (rv : Value) (sc : GSt) (pre : List GSt), f 3 = .pointer (some ⟨b3, 0, none⟩) ∧ f 4 = .pointer (some ⟨b4, 0, none⟩) ∧ f 6 = rv ∧ f 28 = .slice al l.length cl ∧ f 29 = .int .i64 (l.length : Int) ∧ f 30 = .int .i64 (i : Int) ∧ StX [] w0 w (rowI rv 31 3 (pre).length ((pre).flatMap gstC) :: blk b4 (gstC sc) 31 :: blk b3 (gatL g (.slice ao g.own.length co) (.slice az g.sens.length cz)) 29 :: ([] : List Bx.Item)) ∧ (i ≤ l.length) ∧ (pre.length = i) ∧ (GsOk g sc) ∧ (runG g s l = pre ++ runG g sc (l.drop i)) ∧ (fstE stepE l = fstE stepE (l.drop i)) ∧ zz = l.length - i) _ ⟨_, rfl, 0, _, s, [], rfl, rfl, rfl, rfl, rfl, rfl, (hS.nilrow 31 3), (Nat.zero_le _), (rfl), (hgs), (rfl), (rfl), rfl⟩ ?_
    clear hS
    rintro f w _ ⟨i, rv, sc, pre, h3, h4, h6, h28, h29, h30, hS, hi, hpl, hgc, hI, hE, rfl⟩
    refine seq ?_
    refine region ?_
    refine sv (yLss h30 h29) ?_
    refine nil ?_
    show Code.wp _ _ _ _ _
    refine seq ?_
    refine cond rfl (fun c31 => ?_) (fun c31 => ?_)
    ·
     simp only [BS, ne_eq] at c31
     obtain ⟨x, hx, hd⟩ := drop_of (l := l) (k := i) (by omega)
     obtain ⟨bq, oq, cq, haq, -, hcq, hRq, -⟩ := sl_at hl hx
     obtain rfl : cq = gspC x := hRq
     refine skip ?_
     show Code.wp _ _ _ _ _
     refine seq ?_
     refine block ?_
     refine seq ?_
     refine region ?_
     refine sv (yIxa h28 haq h30 Tryz.runUnderlying43 Tryz.sizeOf45 (by omega) (by omega)) ?_
     refine sv (yLdA rfl Tryz.isAgg45 Tryz.sizeOf45 (hcq.ext hS.ext) rfl) ?_
     refine salloc hS Tryz.zeroValue45 rfl ?_; clear hS; intro b9 w hS
     refine sst hS rfl rfl Tryz.sizeOf45 rfl rfl rfl rfl ?_; clear hS; intro w hS
     refine nil ?_
     show Code.wp _ _ _ _ _
     refine seq ?_
     refine seq ?_
     refine region ?_
     refine sv (yLdBA h3 Tryz.isAgg29 Tryz.sizeOf29 (hS.at _) rfl rfl) ?_
     refine sv (yLdBA h4 Tryz.isAgg31 Tryz.sizeOf31 (hS.at _) rfl rfl) ?_
     refine sv (yLdBA rfl Tryz.isAgg45 Tryz.sizeOf45 (hS.at _) rfl rfl) ?_
     refine scall Tryz.call25 (.cons rfl (.cons rfl (.cons rfl .nil))) c_odd ?_
     rintro _ w ⟨rfl, hE2⟩; replace hS := hS.step hE2; clear hE2
     rw [odd_step hgc x]
     refine sv (yAsg rfl) ?_
     refine nil ?_
     show Code.wp _ _ _ _ _
     refine seq ?_
     refine region ?_
     refine sv (yMove rfl) ?_
     refine sv (yNeq rfl rfl) ?_
     refine nil ?_
     show Code.wp _ _ _ _ _
     refine cond rfl (fun c39 => ?_) (fun c39 => ?_)
     ·
      simp only [BS, ne_eq] at c39
      refine seq ?_
      refine region ?_
      refine sv (yMove rfl) ?_
      refine sv (yAsg rfl) ?_
      refine sv (yAsg rfl) ?_
      refine nil ?_
      show Code.wp _ _ _ _ _
      refine wp_ret (thenR (blockR (thenR (thenR (blockR (thenR ?_))))))
      refine retQ (res2 rfl rfl rfl) ?_
      have hz : runE g s l = stepE x := by unfold runE; rw [if_neg (fun k => k c17), if_neg c21, if_neg (fun k => k c26), hE, hd, fstE_hit c39]
      have hn : runE g s l ≠ 0 := by rw [hz]; exact c39
      refine ⟨_, congrArg (fun z => Value.tuple #[_, .int .i64 z]) hz.symm, ?_⟩
      rw [run_no hn]
      exact (hS.sub (List.nil_sublist _)).nilrow 31 3
     ·
      simp only [BS, ne_eq] at c39
      obtain ⟨so, si⟩ := step_ok c39
      refine skip ?_
      show Code.wp _ _ _ _ _
      refine seq ?_
      refine region ?_
      refine sv (yLdBA h3 Tryz.isAgg29 Tryz.sizeOf29 (hS.at _) rfl rfl) ?_
      refine sv (yLdBA h4 Tryz.isAgg31 Tryz.sizeOf31 (hS.at _) rfl rfl) ?_
      refine sv (yLdBA rfl Tryz.isAgg45 Tryz.sizeOf45 (hS.at _) rfl rfl) ?_
      refine scall Tryz.call26 (.cons rfl (.cons rfl (.cons rfl .nil))) (c_alone (h.own.ext RInt.stays hS.ext) hok hgc so si (hord x (List.mem_of_getElem? hx))) ?_
      rintro _ w ⟨rfl, hE⟩; replace hS := hS.step hE; clear hE
      refine sv (yMove rfl) ?_
      refine sv (yExt rfl rfl) ?_
      refine sv (yExt rfl rfl) ?_
      refine sst hS h4 rfl Tryz.sizeOf31 rfl rfl rfl rfl ?_; clear hS; intro w hS
      refine nil ?_
      show Code.wp _ _ _ _ _
      refine region ?_
      refine sv (yMove h6) ?_
      refine sv (yLdBA h4 Tryz.isAgg31 Tryz.sizeOf31 (hS.at _) rfl rfl) ?_
      refine sbslice hS Tryz.underlying46 Tryz.sizeOf31 rfl Tryz.zeroValue31 rfl (.cons rfl rfl .nil) rfl ?_; clear hS; intro b50 w hS
      refine sapp (bytes := 24) (size := 3) (v := rv) (m := 1) hS rfl rfl Tryz.underlying46 ti31 rfl rfl rfl rfl (by decide) (blk_cells (hS.at _)) rfl rfl (by omega) (by omega) ?_; clear hS; intro v51 w hS
      refine sv (yAsg rfl) ?_
      refine nil ?_
      show Code.wp _ _ _ _ _
      refine region ?_
      refine sv (yAdd h30 rfl ⟨by omega, by omega⟩) ?_
      refine sv (yMove rfl) ?_
      refine nil ?_
      exact ⟨_, _, rfl, ⟨i + 1, _, doF g sc x, pre ++ [doF g sc x], h3, h4, rfl, h28, h29, rfl, (by rw [List.flatMap_append, List.length_append]; exact hS.sub (.cons _ (.cons _ (List.Sublist.refl _)))), (by omega), (by rw [List.length_append, hpl]; rfl), ((do_ok hok hgc x).1), (by rw [hI, hd, runG, List.append_assoc]; rfl), (by rw [hE, hd, fstE_step c39]), rfl⟩, by omega⟩
    ·
     simp only [BS, ne_eq] at c31
     obtain rfl : i = l.length := by omega
     have hz : runE g s l = 0 := by rw [hrE, hE, List.drop_length]; rfl
     have hfin : runO g s l = pre := by rw [run_yes hz, hI, List.drop_length]; simp [runG]
     refine exit ?_
     show Code.wp _ _ _ _ _
     refine seq ?_
     refine region ?_
     refine sv (yMove h6) ?_
     refine sv (yAsg rfl) ?_
     refine sv (yAsg rfl) ?_
     refine nil ?_
     show Code.wp _ _ _ _ _
     refine wp_ret ?_
     refine retQ (res2 rfl rfl rfl) ?_
     refine ⟨_, congrArg (fun z => Value.tuple #[_, .int .i64 z]) hz.symm, ?_⟩
     rw [hfin]
     exact hS.sub (.cons_cons _ (List.nil_sublist _))
/-- barrage/gate.Falls -/
theorem c_Falls {g : Gat} {qo qs : Value} {o i : Int} {w0 : World} (h : RGatP w0 g qo qs) : CE Tryz.prog 8 #[.agg (gatL g qo qs).toArray, .int .i64 o, .int .i64 i] w0 (fun u w' => ∃ p, u = .tuple #[.int .i64 p, .int .i64 (atE g o i)] ∧ (atE g o i = 0 → p = -1 → ∀ q, 0 ≤ q → q < g.travel → rubF g q o i < netF g q o i) ∧ Ext w0 w') := by
 obtain ⟨ao, co, rfl, -⟩ := id h.own
 obtain ⟨az, cz, rfl, -⟩ := id h.sens
 refine enter Tryz.func8 rfl Tryz.ntmps8 rfl ?_
 have hS := St.start w0
 refine seq ?_
 refine region ?_
 refine sbox hS rfl rfl ?_; clear hS; intro b3 w hS
 refine sv (yAsg rfl) ?_
 refine sv (yAsg rfl) ?_
 refine nil ?_
 show Code.wp _ _ _ _ _
 refine seq ?_
 refine region ?_
 refine sv (yLdBA rfl Tryz.isAgg29 Tryz.sizeOf29 (hS.at _) rfl rfl) ?_
 refine sv (yMove rfl) ?_
 refine sv (yMove rfl) ?_
 refine scall Tryz.call27 (.cons rfl (.cons rfl (.cons rfl .nil))) (c_at (o := o) (i := i) (h.ext hS.ext)) ?_
 rintro _ w (⟨hz, rfl, hE⟩ | ⟨hz, b17, rfl, hM⟩)
 ·
  replace hS := hS.step hE; clear hE
  refine sv (yMove rfl) ?_
  refine sv (yExt rfl rfl) ?_
  refine sv (yExt rfl rfl) ?_
  refine sv (yAsg rfl) ?_
  refine sv (yAsg rfl) ?_
  refine nil ?_
  show Code.wp _ _ _ _ _
  refine seq ?_
  refine seq ?_
  refine region ?_
  refine sv (yMove rfl) ?_
  refine sv (yNeq rfl rfl) ?_
  refine nil ?_
  show Code.wp _ _ _ _ _
  refine cond rfl (fun c21 => ?_) (fun c21 => ?_)
  ·
   simp only [BS, ne_eq] at c21
   refine seq ?_
   refine region ?_
   refine sv (yMove rfl) ?_
   refine sv (yAsg rfl) ?_
   refine sv (yAsg rfl) ?_
   refine nil ?_
   show Code.wp _ _ _ _ _
   refine wp_ret (thenR ?_)
   refine retQ (res2 rfl rfl rfl) ?_
   exact ⟨_, rfl, fun k => absurd k hz, hS.ext⟩
  ·
   simp only [BS, ne_eq] at c21
   exact absurd c21 hz
 ·
  replace hS := hS.call1 hM; clear hM
  obtain ⟨hck, so, si⟩ := at_ok hz
  have hok := gat_ok g hck
  have k1 := hok.trav
  refine sv (yMove rfl) ?_
  refine sv (yExt rfl rfl) ?_
  refine sv (yExt rfl rfl) ?_
  refine sv (yAsg rfl) ?_
  refine sv (yAsg rfl) ?_
  refine nil ?_
  show Code.wp _ _ _ _ _
  refine seq ?_
  refine seq ?_
  refine region ?_
  refine sv (yMove rfl) ?_
  refine sv (yNeq rfl rfl) ?_
  refine nil ?_
  show Code.wp _ _ _ _ _
  refine cond rfl (fun c21 => ?_) (fun c21 => ?_)
  ·
   exact absurd c21 (by decide)
  ·
   refine skip ?_
   show Code.wp _ _ _ _ _
   refine seq ?_
   refine seq ?_
   refine region ?_
   refine sv (fa29_2 rfl) ?_
   refine sv (yLdB rfl Tryz.isAgg3 (hS.at _) rfl) ?_
   refine sv (yMove rfl) ?_
   refine nil ?_
   show Code.wp _ _ _ _ _
   refine block ?_
   refine loop (fun f w zz => ∃ (k : Nat), f 8 = .pointer (some ⟨b17, 0, none⟩) ∧ f 24 = .int .i64 g.travel ∧ f 25 = .int .i64 (k : Int) ∧ StX [] w0 w (blk b17 (macL g (.slice ao g.own.length co) (.slice az g.sens.length cz) ⟨0, 0, false⟩ ⟨0, false, o, i⟩ 0 0 0) 125 :: ([] : List Bx.Item)) ∧ ((k : Int) ≤ g.travel) ∧ (∀ q : Int, 0 ≤ q → q < k → rubF g q o i < netF g q o i) ∧ zz = (g.travel - k).toNat) _ ⟨_, rfl, 0, rfl, rfl, rfl, (hS.sub (.cons_cons _ (List.nil_sublist _))), (by omega), (fun q h0 h1 => absurd h1 (by omega)), rfl⟩ ?_
   clear hS
   rintro f w _ ⟨k, h8, h24, h25, hS, hk, hI, rfl⟩
   refine seq ?_
   refine region ?_
   refine sv (yLss h25 h24) ?_
   refine nil ?_
   show Code.wp _ _ _ _ _
   refine seq ?_
   refine cond rfl (fun c26 => ?_) (fun c26 => ?_)
   ·
    simp only [BS, ne_eq] at c26
    refine skip ?_
    show Code.wp _ _ _ _ _
    refine seq ?_
    refine block ?_
    refine seq ?_
    refine region ?_
    refine sv (yMove h25) ?_
    refine sv (yAsg rfl) ?_
    refine nil ?_
    show Code.wp _ _ _ _ _
    refine seq ?_
    refine region ?_
    refine sv (yMove h8) ?_
    refine sv (yMove rfl) ?_
    refine scall Tryz.call28 (.cons rfl (.cons rfl .nil)) (c_forces (hS.at b17) (h.own.ext RInt.stays hS.ext) hok ⟨by omega, by omega⟩ so si) ?_
    rintro _ w ⟨rfl, hE⟩; replace hS := hS.step hE; clear hE
    refine sv (yMove rfl) ?_
    refine sv (yExt rfl rfl) ?_
    refine sv (yExt rfl rfl) ?_
    refine sv (yAsg rfl) ?_
    refine sv (yAsg rfl) ?_
    refine nil ?_
    show Code.wp _ _ _ _ _
    refine seq ?_
    refine region ?_
    refine sv (yMove rfl) ?_
    refine sv (yMove rfl) ?_
    refine sv (yLeq rfl rfl) ?_
    refine nil ?_
    show Code.wp _ _ _ _ _
    refine cond rfl (fun c36 => ?_) (fun c36 => ?_)
    ·
     simp only [BS, ne_eq] at c36
     refine seq ?_
     refine region ?_
     refine sv (yMove rfl) ?_
     refine sv (yAsg rfl) ?_
     refine sv (yAsg rfl) ?_
     refine nil ?_
     show Code.wp _ _ _ _ _
     refine wp_ret (blockR (thenR (thenR (blockR (thenR ?_)))))
     refine retQ (res2 rfl rfl rfl) ?_
     exact ⟨_, congrArg (fun z => Value.tuple #[_, .int .i64 z]) hz.symm, fun _ e => by exfalso; omega, hS.ext⟩
    ·
     simp only [BS, ne_eq] at c36
     refine skip ?_
     show Code.wp _ _ _ _ _
     refine region ?_
     refine sv (yAdd h25 rfl ⟨by omega, by omega⟩) ?_
     refine sv (yMove rfl) ?_
     refine nil ?_
     exact ⟨_, _, rfl, ⟨k + 1, h8, h24, rfl, hS, (by omega), (fall_step hI c36), rfl⟩, by omega⟩
   ·
    simp only [BS, ne_eq] at c26
    refine exit ?_
    show Code.wp _ _ _ _ _
    refine seq ?_
    refine region ?_
    refine sv (yAsg rfl) ?_
    refine sv (yAsg rfl) ?_
    refine nil ?_
    show Code.wp _ _ _ _ _
    refine wp_ret ?_
    refine retQ (res2 rfl rfl rfl) ?_
    exact ⟨_, congrArg (fun z => Value.tuple #[_, .int .i64 z]) hz.symm, fun _ _ q h0 h1 => hI q h0 (by omega), hS.ext⟩
end Go.Proofs.YtbbpiebhnbhbiaaGreat
namespace Bx
open Go Go.RowKit
structure Nod where
 name : ByteArray
 kind : Int
 inp : List Int
 count : Int
 hold : Int
structure FSp where
 node : Int
 frm : Int
 unt : Int
deriving DecidableEq
abbrev nodL (x : Nod) (iv : Value) : List Value := [.string x.name, .int .i64 x.kind, iv, .int .i64 x.count, .int .i64 x.hold]
def RNod (w : World) (cs : List Value) (x : Nod) : Prop := ∃ iv, cs = nodL x iv ∧ x.name.size ≤ 9223372036854775807 ∧ Sl w 1 RInt iv x.inp
theorem RNod.stays : Stays RNod := fun _ _ _ _ e ⟨iv, h1, h2, h3⟩ => ⟨iv, h1, h2, h3.ext RInt.stays e⟩
def fspC (s : FSp) : List Value := [.int .i64 s.node, .int .i64 s.frm, .int .i64 s.unt]
theorem fspC_len (s : FSp) : (fspC s).length = 3 := rfl
def RFsp (_ : World) (cs : List Value) (s : FSp) : Prop := cs = fspC s ∧ I64 s.node ∧ I64 s.frm ∧ I64 s.unt
theorem RFsp.stays : Stays RFsp := fun _ _ _ _ _ h => h
def RTre (w : World) (cs : List Value) (l : List Nod) : Prop := ∃ v, cs = [v] ∧ Sl w 5 RNod v l
theorem RTre.ext {w w' : World} {cs : List Value} {l : List Nod} (h : RTre w cs l) (e : Ext w w') : RTre w' cs l := by
 obtain ⟨v, h1, h2⟩ := h
 exact ⟨v, h1, h2.ext RNod.stays e⟩
def nd (l : List Nod) (i : Nat) : Nod := l.getD i ⟨⟨#[]⟩, 0, [], 0, 0⟩
theorem nd_get {l : List Nod} {i : Nat} (h : i < l.length) : l[i]? = some (nd l i) := by simp [nd, List.getD, h]
def leaN (x : Nod) : Int := if x.kind = 1 then 0 else 1
def mosN (x : Nod) : Int := if x.kind = 1 then 0 else 10
def cntB (x : Nod) : Bool := if x.kind = 4 then outB x.count 1 x.inp.length else decide (x.count ≠ 0)
def lasB (x : Nod) : Bool := (cntB x || outB x.hold 0 100) || (decide (x.kind = 1) && decide (0 < x.hold))
def nodE (l : List Nod) (i : Nat) : Int :=
 if (!isName (nd l i).name) = true then 6
 else if ((l.take i).any fun y => decide (y.name = (nd l i).name)) = true then 5
 else if outB (nd l i).kind 1 4 = true then 2
 else if outB (nd l i).inp.length (leaN (nd l i)) (mosN (nd l i)) = true then 3
 else if ((nd l i).inp.any fun n => outB n 0 ((i : Int) - 1)) = true then 4
 else if ((compL (sortI (nd l i).inp)).length : Int) < (nd l i).inp.length then 5
 else if lasB (nd l i) = true then 7 else 0
def basN (l : List Nod) : Nat := (l.filter fun x => decide (x.kind = 1)).length
def chkF (l : List Nod) : Int := if outB l.length 1 40 = true then 3 else if fstE (nodE l) (List.range l.length) ≠ 0 then fstE (nodE l) (List.range l.length) else if outB (basN l) 1 10 = true then 3 else 0
structure NodOk (i : Nat) (x : Nod) : Prop where
 kind : 1 ≤ x.kind ∧ x.kind ≤ 4
 bas : x.kind = 1 → x.inp = []
 inp : x.kind ≠ 1 → 1 ≤ x.inp.length ∧ x.inp.length ≤ 10
 ins : ∀ n ∈ x.inp, 0 ≤ n ∧ n < i
 nodup : x.inp.Nodup
 hold : 0 ≤ x.hold ∧ x.hold ≤ 100
 hold1 : x.kind = 1 → x.hold = 0
 some : x.kind = 4 → 1 ≤ x.count ∧ x.count ≤ x.inp.length
 none : x.kind ≠ 4 → x.count = 0
structure FaOk (l : List Nod) : Prop where
 len : 1 ≤ l.length ∧ l.length ≤ 40
 nods : ∀ i, i < l.length → NodOk i (nd l i)
 bas : 1 ≤ basN l ∧ basN l ≤ 10
theorem nod_ok {l : List Nod} {i : Nat} (h : nodE l i = 0) : NodOk i (nd l i) := by
 unfold nodE at h
 split at h
 ·
  simp at h
 split at h
 ·
  simp at h
 split at h
 ·
  simp at h
 next k1 =>
 split at h
 ·
  simp at h
 next k2 =>
 split at h
 ·
  simp at h
 next k3 =>
 split at h
 ·
  simp at h
 next k4 =>
 split at h
 ·
  simp at h
 next k5 =>
 simp only [Bool.not_eq_true, outB_false] at k1 k2
 simp only [Bool.not_eq_true, List.any_eq_false, outB_false] at k3
 simp only [lasB, Bool.not_eq_true, Bool.or_eq_false_iff, outB_false, Bool.and_eq_false_iff, decide_eq_false_iff_not] at k5
 obtain ⟨⟨k6, k7⟩, k8⟩ := k5
 unfold leaN mosN at k2
 unfold cntB at k6
 refine ⟨k1, fun e => ?_, fun e => ?_, fun n hn => ?_, ?_, k7, fun e => ?_, fun e => ?_, fun e => ?_⟩
 ·
  rw [if_pos e, if_pos e] at k2
  exact List.eq_nil_of_length_eq_zero (by omega)
 ·
  rw [if_neg e, if_neg e] at k2
  omega
 ·
  have := k3 n hn; omega
 ·
  refine Decidable.not_not.1 fun hn => ?_
  have := (comp_sort (nd l i).inp).2 hn
  omega
 ·
  rcases k8 with k8 | k8
  ·
   exact absurd e k8
  ·
   omega
 ·
  rw [if_pos e, outB_false] at k6; exact k6
 ·
  rw [if_neg e, decide_eq_false_iff_not, Decidable.not_not] at k6; exact k6
theorem fa_ok {l : List Nod} (h : chkF l = 0) : FaOk l := by
 unfold chkF at h
 split at h
 ·
  simp at h
 next k1 =>
 split at h
 next k => exact absurd h k
 next k2 =>
 split at h
 ·
  simp at h
 next k3 =>
 simp only [Bool.not_eq_true, outB_false] at k1 k3
 have k2 := fstE_ok (Decidable.not_not.1 k2)
 exact ⟨by omega, fun i hi => nod_ok (k2 i (List.mem_range.2 hi)), by omega⟩
theorem chk_1 {l : List Nod} (h : outB l.length 1 40 = true) : chkF l = 3 := by unfold chkF; rw [if_pos h]
theorem chk_2 {l : List Nod} {i : Nat} (h : outB l.length 1 40 = false) (hI : fstE (nodE l) (List.range l.length) = nodE l i) (h2 : nodE l i ≠ 0) : chkF l = nodE l i := by unfold chkF; rw [if_neg (by rw [h]; decide), hI, if_pos h2]
theorem chk_3 {l : List Nod} (h : outB l.length 1 40 = false) (hI : fstE (nodE l) (List.range l.length) = 0) : chkF l = if outB (basN l) 1 10 = true then 3 else 0 := by unfold chkF; rw [if_neg (by rw [h]; decide), hI, if_neg (fun k => k rfl)]
theorem basN_take {l : List Nod} {k : Nat} (h : k < l.length) : basN (l.take (k + 1)) = basN (l.take k) + if (nd l k).kind = 1 then 1 else 0 := by
 unfold basN
 rw [take_snoc (nd_get h), List.filter_append, List.length_append]
 congr 1
 by_cases e : (nd l k).kind = 1 <;> simp [List.filter, e]
theorem basN_le (l : List Nod) (k : Nat) : basN (l.take k) ≤ k := by
 unfold basN
 exact Nat.le_trans (List.length_filter_le _ _) (by rw [List.length_take]; omega)
theorem range_drop {n k x : Nat} (h : (List.range n)[k]? = some x) : x = k := by
 obtain ⟨h1, h2⟩ := List.getElem?_eq_some_iff.1 h
 simp at h2; exact h2.symm
end Bx
namespace Go.Proofs.YtbbpiebhnbhbiaaGreat
open Go Bx
/-- slices.Values   int,int  -/
theorem c_Values {a : Option Addr} {len cap : Nat} {w0 : World} : CE Tryz.prog 78 #[.slice a len cap] w0 (fun u w' => ∃ b, u = .func (.func 97) #[] [.pointer (some ⟨b, 0, none⟩)].toArray ∧ St w0 w' [blk b [.slice a len cap] 26]) := by
 refine enter Tryz.func78 rfl Tryz.ntmps78 rfl ?_
 have hS := St.start w0
 refine seq ?_
 refine region ?_
 refine sbox hS rfl rfl ?_; clear hS; intro b1 w hS
 refine sv (yAsg rfl) ?_
 refine nil ?_
 show Code.wp _ _ _ _ _
 refine seq ?_
 refine region ?_
 refine sv (yFn (.cons rfl .nil)) ?_
 refine sv (yAsg rfl) ?_
 refine nil ?_
 show Code.wp _ _ _ _ _
 refine wp_ret ?_
 refine retQ (res1 rfl rfl) ?_
 exact ⟨b1, rfl, hS⟩
/-- slices.Values   int,int  closure 1 -/
theorem it_Values {l : List Int} {a : Option Addr} {cap b : Nat} {T : TypeId} {w0 : World} (hsl : Sl w0 1 RInt (.slice a l.length cap) l) (hb : w0.heap[b]? = some (.cells [.slice a l.length cap].toArray T (0, 0))) : ItC Tryz.prog 97 [.pointer (some ⟨b, 0, none⟩)] w0 [] Bx.encI l := by
 obtain ⟨a', cap', hv, hcap, hmx, hel⟩ := hsl
 obtain ⟨rfl, rfl⟩ := slice_inj hv.symm
 intro yl Cb w L hY h0 hS
 replace hS : StX [] w0 w L := hS
 refine enterX Tryz.func97 rfl Tryz.ntmps97 rfl ?_
 skip
 refine seqX ?_
 refine regionX rfl ?_
 refine sv (yLd rfl Tryz.isAgg26 (cell_of (hS.ext.get hb) rfl)) ?_
 refine sv (yLen rfl Tryz.underlying26) ?_
 refine sv (yMove rfl) ?_
 refine nil ?_
 show Code.wpIn _ _ _ _ _ _ _
 refine blockX ?_
 refine loopX (fun f w zz => ∃ (k : Nat) (L : List Bx.Item), f 0 = .func (.yield yl) #[] #[] ∧ f 5 = .slice a l.length cap ∧ f 6 = .int .i64 (l.length : Int) ∧ f 7 = .int .i64 (k : Int) ∧ StX [] w0 w (L) ∧ (k ≤ l.length) ∧ (Cb true (l.take k) L) ∧ zz = l.length - k) _ ⟨_, rfl, 0, L, rfl, rfl, rfl, rfl, hS, (Nat.zero_le _), (h0), rfl⟩ ?_
 clear hS
 rintro f w _ ⟨k, L, h0, h5, h6, h7, hS, hk, hcb, rfl⟩
 refine seqX ?_
 refine regionX rfl ?_
 refine sv (yLss h7 h6) ?_
 refine nil ?_
 show Code.wpIn _ _ _ _ _ _ _
 refine seqX ?_
 refine condX rfl (fun c8 => ?_) (fun c8 => ?_)
 ·
  simp only [BS, ne_eq] at c8
  refine skipX ?_
  show Code.wpIn _ _ _ _ _ _ _
  refine seqX ?_
  refine blockX ?_
  refine seqX ?_
  refine regionX rfl ?_
  obtain ⟨x, hx, hd⟩ := drop_of (l := l) (k := k) (by omega)
  obtain ⟨b2, o, cs, ha, hlen, hcs, hR⟩ := hel k (by omega)
  obtain rfl : x = l[k] := (List.getElem?_eq_some_iff.1 hx).2.symm
  generalize l[k] = x at hx hd hR
  obtain ⟨rfl, hi64⟩ := hR
  refine sv (yIxa h5 ha h7 Tryz.runUnderlying26 Tryz.sizeOf3 (by omega) (by omega)) ?_
  refine sv (yLd rfl Tryz.isAgg3 ((hcs.ext hS.ext).one)) ?_
  refine sv (yAsg rfl) ?_
  refine nil ?_
  show Code.wpIn _ _ _ _ _ _ _
  refine seqX ?_
  refine regionL ?_
  refine preX 2 rfl ?_
  refine sv (yMove h0) ?_
  refine sv (yMove rfl) ?_
  refine nil ?_
  show wpListIn _ _ _ _ _ _ _ _
  refine yieldU rfl (.cons rfl .nil) (hY (l.take k) x w L [] (by rw [← take_snoc hx]; exact List.take_prefix _ _) hcb hS) ?_
  clear hS hcb; rintro _ w ⟨bb, L, rfl, hcb, hS⟩
  replace hS : StX [] w0 w L := hS
  refine endX rfl ?_
  refine sv (yNot rfl) ?_
  refine nil ?_
  show Code.wpIn _ _ _ _ _ _ _
  refine condX rfl (fun c14 => ?_) (fun c14 => ?_)
  ·
   skip
   obtain rfl : bb = false := by cases bb; rfl; simp at c14
   refine wpIn_ret (blockR (thenR (thenR (blockR ?_))))
   refine leafX (results_none rfl _ _ _) ?_
   exact ⟨L, hS, .inr ⟨_, hcb⟩⟩
  ·
   skip
   obtain rfl : bb = true := by cases bb; simp at c14; rfl
   refine skipX ?_
   show Code.wpIn _ _ _ _ _ _ _
   refine regionX rfl ?_
   refine sv (yAdd h7 rfl ⟨by omega, by omega⟩) ?_
   refine sv (yMove rfl) ?_
   refine nil ?_
   exact ⟨_, _, rfl, ⟨k + 1, L, h0, h5, h6, rfl, hS, (by omega), (by rw [take_snoc hx]; exact hcb), rfl⟩, by omega⟩
 ·
  simp only [BS, ne_eq] at c8
  refine exitX ?_
  show bodyPostM (FX none) 0 _ _ _ .normal _ _
  refine leafXN (results_none rfl _ _ _) ?_
  obtain rfl : k = l.length := by omega
  rw [List.take_length] at hcb
  exact ⟨L, hS, .inl hcb⟩
/-- slices.AppendSeq   int,int  -/
theorem c_AppendSeq {l : List Int} {g : Nat} {cl : List Value} {w0 : World} (hit : ∀ w', Ext w0 w' → ItC Tryz.prog g cl w' [] Bx.encI l) (eg : ∀ ys w, (callFunc g ys).run Tryz.prog w = .ok (.enter g ys) w) (hrm : Room l.length 8) : CE Tryz.prog 112 #[.slice none 0 0, .func (.func g) #[] cl.toArray] w0 (fun u w' => St w0 w' [rowI u 3 1 (l).length ((l).flatMap Bx.encI)]) := by
 refine enterX Tryz.func112 rfl Tryz.ntmps112 rfl ?_
 have hS := St.start w0
 refine seqX ?_
 refine regionX rfl ?_
 refine sbox hS rfl rfl ?_; clear hS; intro b2 w hS
 refine sv (yAsg rfl) ?_
 refine nil ?_
 show Code.wpIn _ _ _ _ _ _ _
 refine seqX ?_
 refine seqX ?_
 refine regionX rfl ?_
 replace hS := hS.nilrow 3 1
 have hrm8 : l.length * 8 ≤ 140737488351232 := hrm
 refine sv (yMove rfl) ?_
 refine nil ?_
 show Code.wpIn _ _ _ _ _ _ _
 refine blockX ?_
 refine rangeX (R := []) (L0 := [rowI (.slice none 0 0) 3 1 0 [], blk b2 [.slice none 0 0] 26]) (ps := [7]) rfl eg hS (hit w0 (Ext.refl _)) (fun cc pre L => cc = none ∧ ∃ v, L = [rowI v 3 1 (pre).length ((pre).flatMap Bx.encI), blk b2 [v] 26]) ⟨rfl, _, rfl⟩ (fun _ _ => rfl) ?_ ?_ ?_
 ·
  clear hS
  intro yl pre x w L M hpre hcb hS
  obtain ⟨-, v, rfl⟩ := hcb
  have hpl := hpre.length_le
  simp only [List.length_append, List.length_singleton] at hpl
  replace hS : StX [] w0 w (rowI v 3 1 (pre).length ((pre).flatMap Bx.encI) :: blk b2 [v] 26 :: M) := hS
  refine regionX rfl ?_
  refine sv (yAsg rfl) ?_
  refine nil ?_
  refine ⟨_, [rowI v 3 1 (pre).length ((pre).flatMap Bx.encI), blk b2 [v] 26], rfl, hS, ?_⟩
  clear hS M; intro M w hS; replace hS : StX [] w0 w (rowI v 3 1 (pre).length ((pre).flatMap Bx.encI) :: blk b2 [v] 26 :: M) := hS
  refine blockX ?_
  refine regionX rfl ?_
  refine sv (yLdB rfl Tryz.isAgg26 (hS.at _) rfl) ?_
  refine sv (yMove rfl) ?_
  refine sbslice hS Tryz.underlying26 Tryz.sizeOf3 rfl Tryz.zeroValue3 rfl (.cons rfl rfl .nil) rfl ?_; clear hS; intro b10 w hS
  refine sapp (bytes := 8) (size := 1) (v := v) (m := 1) hS rfl rfl Tryz.underlying26 ti3 rfl rfl rfl rfl (by decide) (blk_cells (hS.at _)) rfl rfl (by omega) (by omega) ?_; clear hS; intro v11 w hS
  obtain ⟨gr, capr, rfl, -⟩ := row_some (hS.row v11) (Nat.succ_pos _)
  refine sst hS rfl rfl Tryz.sizeOf26 rfl rfl rfl rfl ?_; clear hS; intro w hS
  refine nil ?_
  exact ⟨_, ⟨rfl, _, rfl⟩, (by rw [List.flatMap_append, List.length_append]; exact hS.sub (.cons _ (List.Sublist.refl _)))⟩
 ·
  clear hS
  intro D w L hcb hS
  obtain ⟨-, v, rfl⟩ := hcb
  replace hS : StX [] w0 w [obj D (.deferred (some [])), rowI v 3 1 (l).length ((l).flatMap Bx.encI), blk b2 [v] 26] := hS
  show Code.wpIn _ _ _ _ _ _ _
  refine seqX ?_
  refine regionX rfl ?_
  refine sv (yLdB rfl Tryz.isAgg26 (hS.at _) rfl) ?_
  refine sv (yAsg rfl) ?_
  refine nil ?_
  show Code.wpIn _ _ _ _ _ _ _
  refine wpIn_ret ?_
  refine leafD hS (fun w hS => (res1 rfl rfl)) (fun w hS => ?_)
  show St w0 w [_]
  exact hS.sub (.cons _ (.cons_cons _ (List.nil_sublist _)))
 ·
  intro D w L c pre hcb hS; exact absurd hcb.1 (by simp)
/-- slices.Collect int  -/
theorem c_Collect {l : List Int} {g : Nat} {cl : List Value} {w0 : World} (hit : ∀ w', Ext w0 w' → ItC Tryz.prog g cl w' [] Bx.encI l) (eg : ∀ ys w, (callFunc g ys).run Tryz.prog w = .ok (.enter g ys) w) (hrm : Room l.length 8) : CE Tryz.prog 96 #[.func (.func g) #[] cl.toArray] w0 (fun u w' => St w0 w' [rowI u 3 1 (l).length ((l).flatMap Bx.encI)]) := by
 refine enter Tryz.func96 rfl Tryz.ntmps96 rfl ?_
 have hS := St.start w0
 refine seq ?_
 refine region ?_
 refine sv (yAsg rfl) ?_
 refine nil ?_
 show Code.wp _ _ _ _ _
 refine seq ?_
 refine region ?_
 refine sv (yMove rfl) ?_
 refine scall Tryz.call112 (.cons rfl (.cons rfl .nil)) (c_AppendSeq (fun w' e => hit w' (hS.ext.trans e)) eg hrm) ?_
 rintro v w hM; replace hS := hS.call1 hM; clear hM
 refine sv (yAsg rfl) ?_
 refine nil ?_
 show Code.wp _ _ _ _ _
 refine wp_ret ?_
 refine retQ (res1 rfl rfl) ?_
 exact hS
/-- slices.Sorted int  -/
theorem c_Sorted {l : List Int} {g : Nat} {cl : List Value} {w0 : World} (hit : ∀ w', Ext w0 w' → ItC Tryz.prog g cl w' [] Bx.encI l) (eg : ∀ ys w, (callFunc g ys).run Tryz.prog w = .ok (.enter g ys) w) (hrm : Room l.length 8) : CE Tryz.prog 77 #[.func (.func g) #[] cl.toArray] w0 (fun u w' => St w0 w' [rowI u 3 1 (sortI l).length ((sortI l).flatMap Bx.encI)]) := by
 refine enter Tryz.func77 rfl Tryz.ntmps77 rfl ?_
 have hS := St.start w0
 refine seq ?_
 refine region ?_
 refine sv (yAsg rfl) ?_
 refine nil ?_
 show Code.wp _ _ _ _ _
 refine seq ?_
 refine region ?_
 refine sv (yMove rfl) ?_
 refine scall Tryz.call96 (.cons rfl .nil) (c_Collect (fun w' e => hit w' (hS.ext.trans e)) eg hrm) ?_
 rintro v w hM; replace hS := hS.call1 hM; clear hM
 have hrm8 : l.length * 8 ≤ 140737488351232 := hrm
 refine sv (yAsg rfl) ?_
 refine nil ?_
 show Code.wp _ _ _ _ _
 refine seq ?_
 refine region ?_
 refine sv (yMove rfl) ?_
 refine scall Tryz.call37 (.cons rfl .nil) (c_Sort (hS.row v) rfl (by omega)) ?_
 rintro _ w ⟨rfl, hG, hR⟩; replace hS := hS.app (v := v) (v' := v) hR hG (.inl rfl); clear hG hR
 refine nil ?_
 show Code.wp _ _ _ _ _
 refine seq ?_
 refine region ?_
 refine sv (yMove rfl) ?_
 refine sv (yAsg rfl) ?_
 refine nil ?_
 show Code.wp _ _ _ _ _
 refine wp_ret ?_
 refine retQ (res1 rfl rfl) ?_
 show St w0 w [_]
 rw [(sortI_perm l).length_eq]
 exact hS
/-- slices.Compact   int,int  -/
theorem c_Compact {l : List Int} {a : Option Addr} {cap : Nat} {w0 : World} (hr : w0.ownsRow 0 3 1 (.slice a l.length cap) l.length (l.flatMap Bx.encI)) (hrm : l.length * 8 ≤ 140737488351232) : CE Tryz.prog 76 #[.slice a l.length cap] w0 (fun u w' => u = .slice a (compL l).length cap ∧ StX (Value.slice a l.length cap).ownBlock.toList w0 w' [rowI (.slice a (compL l).length cap) 3 1 (compL l).length ((compL l).flatMap Bx.encI)]) := by
 refine enter Tryz.func76 rfl Tryz.ntmps76 rfl ?_
 have hS := StX.startR hr
 refine seq ?_
 refine region ?_
 refine sv (yAsg rfl) ?_
 refine nil ?_
 show Code.wp _ _ _ _ _
 refine seq ?_
 refine seq ?_
 refine region ?_
 refine sv (yMove rfl) ?_
 refine sv (yLen rfl Tryz.underlying26) ?_
 refine sv (yLss rfl rfl) ?_
 refine nil ?_
 show Code.wp _ _ _ _ _
 refine cond rfl (fun c8 => ?_) (fun c8 => ?_)
 ·
  simp only [BS, ne_eq] at c8
  have hfl := compL_short c8
  refine seq ?_
  refine region ?_
  refine sv (yMove rfl) ?_
  refine sv (yAsg rfl) ?_
  refine nil ?_
  show Code.wp _ _ _ _ _
  refine wp_ret (thenR ?_)
  refine retQ (res1 rfl rfl) ?_
  rw [hfl]
  exact ⟨rfl, hS⟩
 ·
  simp only [BS, ne_eq] at c8
  obtain ⟨gb, rfl, -⟩ := row_get (hS.row (.slice a l.length cap)) (by omega)
  have hcap : l.length ≤ cap := by
   obtain ⟨g2, c2, e2, h2, -⟩ := row_some (hS.row (.slice (some ⟨gb, 0, none⟩) l.length cap)) (by omega)
   obtain ⟨-, rfl⟩ := slice_inj e2
   exact h2
  refine skip ?_
  show Code.wp _ _ _ _ _
  refine seq ?_
  refine seq ?_
  refine region ?_
  refine sv (yAsg rfl) ?_
  refine nil ?_
  show Code.wp _ _ _ _ _
  refine block ?_
  refine loop (fun f w zz => ∃ (k : Nat), f 0 = .slice (some ⟨gb, 0, none⟩) l.length cap ∧ f 3 = .int .i64 (k : Int) ∧ StX (Value.slice (some ⟨gb, 0, none⟩) l.length cap).ownBlock.toList w0 w ([rowI (.slice (some ⟨gb, 0, none⟩) l.length cap) 3 1 l.length ((l).flatMap Bx.encI)]) ∧ (1 ≤ k ∧ k ≤ l.length) ∧ (compL l = l.take k ++ compR (l.getD (k - 1) 0) (l.drop k)) ∧ zz = l.length - k) _ ⟨_, rfl, 1, rfl, rfl, hS, (⟨Nat.le_refl _, by omega⟩), (compL_one (by omega)), rfl⟩ ?_
  clear hS
  rintro f w _ ⟨k, h0, h3, hS, hk, hI, rfl⟩
  refine seq ?_
  refine seq ?_
  refine region ?_
  refine sv (yMove h3) ?_
  refine sv (yMove h0) ?_
  refine sv (yLen rfl Tryz.underlying26) ?_
  refine sv (yLss rfl rfl) ?_
  refine nil ?_
  show Code.wp _ _ _ _ _
  refine cond rfl (fun c13 => ?_) (fun c13 => ?_)
  ·
   simp only [BS, ne_eq] at c13
   obtain ⟨x, hx, hd⟩ := drop_of (l := l) (k := k) (by omega)
   obtain ⟨y, hy, -⟩ := drop_of (l := l) (k := k - 1) (by omega)
   refine skip ?_
   show Code.wp _ _ _ _ _
   refine seq ?_
   refine block ?_
   refine seq ?_
   refine region_draw mixed (by kernel_rfl) hS ?_
   refine qv (fun w hS => (yMove h0)) ?_
   refine qv (fun w hS => (yMove h3)) ?_
   refine qv (fun w hS => (yIx0 (m := k) rfl rfl Tryz.runUnderlying26 Tryz.sizeOf3 (by omega))) ?_
   refine qv (fun w hS => (yLd rfl Tryz.isAgg3 ((flat_cells0 (enc := Bx.encI) encI_len (row_at (hS.row (.slice (some ⟨gb, 0, none⟩) l.length cap)) rfl (by omega)) hx).one))) ?_
   refine qv (fun w hS => (yMove h0)) ?_
   refine qv (fun w hS => (yMove h3)) ?_
   refine qv (fun w hS => (Y.to (ySub rfl rfl ⟨by omega, by omega⟩) (show Value.int .i64 _ = .int .i64 ((k - 1 : Nat) : Int) by congr 1; omega))) ?_
   refine qv (fun w hS => (yIx0 (m := k - 1) rfl rfl Tryz.runUnderlying26 Tryz.sizeOf3 (by omega))) ?_
   refine qv (fun w hS => (yLd rfl Tryz.isAgg3 ((flat_cells0 (enc := Bx.encI) encI_len (row_at (hS.row (.slice (some ⟨gb, 0, none⟩) l.length cap)) rfl (by omega)) hy).one))) ?_
   refine qv (fun w hS => (yEql rfl rfl)) ?_
   clear hS; refine qnil (fun w hS => ?_)
   show Code.wp _ _ _ _ _
   refine cond rfl (fun c25 => ?_) (fun c25 => ?_)
   ·
    simp only [BS, ne_eq] at c25
    refine seq ?_
    refine region ?_
    refine sv (yMove h0) ?_
    refine sv (yMove h3) ?_
    refine sv (yFrom (i := k) rfl rfl Tryz.underlying26 Tryz.sizeOf3 (by omega) (by omega)) ?_
    refine sv (yAsg rfl) ?_
    refine nil ?_
    show Code.wp _ _ _ _ _
    refine seq ?_
    refine seq ?_
    refine region ?_
    refine sv (yAsg rfl) ?_
    refine nil ?_
    show Code.wp _ _ _ _ _
    refine block ?_
    have htl : (l.take k).length = k := by simp; omega
    refine loop (fun f w zz => ∃ (ks js : List Int) (j : Nat), f 0 = .slice (some ⟨gb, 0, none⟩) l.length cap ∧ f 3 = .int .i64 (ks.length : Int) ∧ f 4 = .slice (some ⟨gb, 0 + k * 1, none⟩) (l.length - k) (cap - k) ∧ f 5 = .int .i64 ((j - k : Nat) : Int) ∧ StX (Value.slice (some ⟨gb, 0, none⟩) l.length cap).ownBlock.toList w0 w ([rowI (.slice (some ⟨gb, 0, none⟩) l.length cap) 3 1 l.length ((ks ++ js ++ l.drop j).flatMap Bx.encI)]) ∧ (k < j ∧ j ≤ l.length) ∧ (ks.length + js.length = j) ∧ (js ≠ []) ∧ ((ks ++ js)[j - 1]? = l[j - 1]?) ∧ (compL l = ks ++ compR (l.getD (j - 1) 0) (l.drop j)) ∧ zz = l.length - j) _ ⟨_, rfl, l.take k, [x], k + 1, h0, (by rw [htl]; exact h3), rfl, (by rw [show k + 1 - k = 1 by omega]; exact rfl), (by rw [cut_at hx]; exact hS), (⟨by omega, by omega⟩), (by rw [htl]; rfl), (by simp), (by rw [List.getElem?_append_right (by rw [htl]; omega), htl, Nat.add_sub_cancel, Nat.sub_self, hx]; rfl), (by rw [hI, hd, getD_of hy, compR, if_pos c25, Nat.add_sub_cancel, getD_of hx, c25]), rfl⟩ ?_
    clear hS
    rintro f w _ ⟨ks, js, j, h0, h3, h4, h5, hS, hj, hl, hne, hla, hI2, rfl⟩
    refine seq ?_
    refine seq ?_
    refine region ?_
    refine sv (yMove h5) ?_
    refine sv (yMove h4) ?_
    refine sv (yLen rfl Tryz.underlying26) ?_
    refine sv (yLss rfl rfl) ?_
    refine nil ?_
    show Code.wp _ _ _ _ _
    refine cond rfl (fun c32 => ?_) (fun c32 => ?_)
    ·
     simp only [BS, ne_eq] at c32
     obtain ⟨z, hz, hdz⟩ := drop_of (l := l) (k := j) (by omega)
     obtain ⟨u, hu, -⟩ := drop_of (l := l) (k := j - 1) (by omega)
     have hml := (mid_last hl hne hla).trans hu
     have hmz := mid_get hl hz
     have hjp := List.length_pos_iff.2 hne
     refine skip ?_
     show Code.wp _ _ _ _ _
     refine seq ?_
     refine block ?_
     refine seq ?_
     refine region_draw mixed (by kernel_rfl) hS ?_
     refine qv (fun w hS => (yMove h4)) ?_
     refine qv (fun w hS => (yMove h5)) ?_
     refine qv (fun w hS => (Y.to (yIxa rfl rfl rfl Tryz.runUnderlying26 Tryz.sizeOf3 (by omega) (by omega)) (show Value.pointer (some ⟨gb, 0 + k * 1 + (j - k) * 1, none⟩) = .pointer (some ⟨gb, (j) * 1, none⟩) by rw [show 0 + k * 1 + (j - k) * 1 = (j) * 1 by omega]))) ?_
     refine qv (fun w hS => (yLd rfl Tryz.isAgg3 ((flat_cells0 (enc := Bx.encI) encI_len (row_at (hS.row (.slice (some ⟨gb, 0, none⟩) l.length cap)) rfl (by omega)) hmz).one))) ?_
     refine qv (fun w hS => (yMove h4)) ?_
     refine qv (fun w hS => (yMove h5)) ?_
     refine qv (fun w hS => (Y.to (ySub rfl rfl ⟨by omega, by omega⟩) (show Value.int .i64 _ = .int .i64 ((j - k - 1 : Nat) : Int) by congr 1; omega))) ?_
     refine qv (fun w hS => (Y.to (yIxa rfl rfl rfl Tryz.runUnderlying26 Tryz.sizeOf3 (by omega) (by omega)) (show Value.pointer (some ⟨gb, 0 + k * 1 + (j - k - 1) * 1, none⟩) = .pointer (some ⟨gb, (j - 1) * 1, none⟩) by rw [show 0 + k * 1 + (j - k - 1) * 1 = (j - 1) * 1 by omega]))) ?_
     refine qv (fun w hS => (yLd rfl Tryz.isAgg3 ((flat_cells0 (enc := Bx.encI) encI_len (row_at (hS.row (.slice (some ⟨gb, 0, none⟩) l.length cap)) rfl (by omega)) hml).one))) ?_
     refine qv (fun w hS => (yNeq rfl rfl)) ?_
     clear hS; refine qnil (fun w hS => ?_)
     show Code.wp _ _ _ _ _
     refine cond rfl (fun c44 => ?_) (fun c44 => ?_)
     ·
      simp only [BS, ne_eq] at c44
      refine seq ?_
      refine region ?_
      refine sv (yMove h0) ?_
      refine sv (yMove h3) ?_
      refine sv (yMove h4) ?_
      refine sv (yMove h5) ?_
      refine sv (Y.to (yIxa rfl rfl rfl Tryz.runUnderlying26 Tryz.sizeOf3 (by omega) (by omega)) (show Value.pointer (some ⟨gb, 0 + k * 1 + (j - k) * 1, none⟩) = .pointer (some ⟨gb, (j) * 1, none⟩) by rw [show 0 + k * 1 + (j - k) * 1 = (j) * 1 by omega])) ?_
      refine sv (yLd rfl Tryz.isAgg3 ((flat_cells0 (enc := Bx.encI) encI_len (row_at (hS.row (.slice (some ⟨gb, 0, none⟩) l.length cap)) rfl (by omega)) hmz).one)) ?_
      refine sv (yIx0 (m := ks.length) rfl rfl Tryz.runUnderlying26 Tryz.sizeOf3 (by omega)) ?_
      refine srst (m := l.length) (cap := cap) (sz := 1) hS rfl rfl Tryz.sizeOf3 rfl rfl (by omega) rfl ?_; clear hS; intro w hS
      refine nil ?_
      show Code.wp _ _ _ _ _
      refine region ?_
      refine sv (yMove h3) ?_
      refine sv (yAdd rfl rfl ⟨by omega, by omega⟩) ?_
      refine sv (yAsg rfl) ?_
      refine nil ?_
      show Code.wp _ _ _ _ _
      refine region ?_
      refine sv (yMove h5) ?_
      refine sv (yAdd rfl rfl ⟨by omega, by omega⟩) ?_
      refine sv (yAsg rfl) ?_
      refine nil ?_
      exact ⟨_, _, rfl, ⟨ks ++ [z], js.tail ++ [z], j + 1, h0, (by rw [List.length_append]; exact rfl), h4, (by rw [show j + 1 - k = (j - k) + 1 by omega]; exact rfl), (by rw [gap_outI hz hne]; exact hS), (⟨by omega, by omega⟩), (by simp; have := List.length_pos_iff.2 hne; omega), (by simp), (last_out hz hl hne), (by rw [hI2, hdz, getD_of hu, compR, if_neg c44, Nat.add_sub_cancel, getD_of hz, List.append_assoc]; rfl), rfl⟩, by omega⟩
     ·
      simp only [BS, ne_eq] at c44
      refine skip ?_
      show Code.wp _ _ _ _ _
      refine region ?_
      refine sv (yMove h5) ?_
      refine sv (yAdd rfl rfl ⟨by omega, by omega⟩) ?_
      refine sv (yAsg rfl) ?_
      refine nil ?_
      exact ⟨_, _, rfl, ⟨ks, js ++ [z], j + 1, h0, h3, h4, (by rw [show j + 1 - k = (j - k) + 1 by omega]; exact rfl), (by rw [gap_in hz]; exact hS), (⟨by omega, by omega⟩), (by simp; omega), (by simp), (last_in hz hl), (by rw [hI2, hdz, getD_of hu, compR, if_pos c44, Nat.add_sub_cancel, getD_of hz, c44]), rfl⟩, by omega⟩
    ·
     simp only [BS, ne_eq] at c32
     obtain rfl : j = l.length := by omega
     have hjp := List.length_pos_iff.2 hne
     rw [List.drop_length] at hI2
     have hfl : compL l = ks := by rw [hI2]; simp [compR]
     refine exit ?_
     show Code.wp _ _ _ _ _
     refine seq ?_
     refine region ?_
     refine sv (yMove h0) ?_
     refine sv (yMove h3) ?_
     refine sv (yTail rfl rfl Tryz.underlying26 Tryz.sizeOf3 (by omega)) ?_
     refine sclear (i := ks.length) (m := l.length) hS rfl Tryz.underlying26 Tryz.zeroValue3 rfl (by decide) (by decide) (by omega) ?_; clear hS; intro w hS
     refine nil ?_
     show Code.wp _ _ _ _ _
     refine seq ?_
     refine region ?_
     refine sv (yMove h0) ?_
     refine sv (yMove h3) ?_
     refine sv (yHead ⟨_, rfl⟩ rfl rfl Tryz.underlying26 Tryz.sizeOf3 (by omega)) ?_
     refine sv (yAsg rfl) ?_
     refine nil ?_
     show Code.wp _ _ _ _ _
     refine wp_ret (blockR (thenR (thenR (blockR (thenR ?_)))))
     refine retQ (res1 rfl rfl) ?_
     rw [hfl]
     rw [List.append_assoc, take_flatI] at hS
     exact ⟨rfl, hS⟩
   ·
    simp only [BS, ne_eq] at c25
    refine skip ?_
    show Code.wp _ _ _ _ _
    refine region ?_
    refine sv (yMove h3) ?_
    refine sv (yAdd rfl rfl ⟨by omega, by omega⟩) ?_
    refine sv (yAsg rfl) ?_
    refine nil ?_
    exact ⟨_, _, rfl, ⟨k + 1, h0, rfl, hS, (⟨by omega, by omega⟩), (by rw [hI, hd, getD_of hy, compR, if_neg c25, take_snoc hx, List.append_assoc, Nat.add_sub_cancel, getD_of hx]; rfl), rfl⟩, by omega⟩
  ·
   simp only [BS, ne_eq] at c13
   obtain rfl : k = l.length := by omega
   rw [List.take_length, List.drop_length] at hI
   have hfl : compL l = l := by rw [hI]; simp [compR]
   refine exit ?_
   show Code.wp _ _ _ _ _
   refine seq ?_
   refine region ?_
   refine sv (yMove h0) ?_
   refine sv (yAsg rfl) ?_
   refine nil ?_
   show Code.wp _ _ _ _ _
   refine wp_ret ?_
   refine retQ (res1 rfl rfl) ?_
   rw [hfl]
   exact ⟨rfl, hS⟩
/-- barrage/failure.out -/
theorem c_fout {a lo hi : Int} {w0 : World} : CV Tryz.prog 12 #[.int .i64 a, .int .i64 lo, .int .i64 hi] w0 (.bool (outB a lo hi)) := by
 refine enter Tryz.func12 rfl Tryz.ntmps12 rfl ?_
 have hS := St.start w0
 refine seq ?_
 refine region ?_
 refine sv (yAsg rfl) ?_
 refine nil ?_
 show Code.wp _ _ _ _ _
 refine seq ?_
 refine region ?_
 refine sv (yMove rfl) ?_
 refine sv (yMove rfl) ?_
 refine sv (yLss rfl rfl) ?_
 refine sv (yMove rfl) ?_
 refine sg rfl rfl rfl (fun g => (yMove rfl)) (fun v11 g11 => ?_)
 refine sg rfl rfl rfl (fun g => (yMove rfl)) (fun v12 g12 => ?_)
 refine sg rfl rfl rfl (fun g => (yGtr (g11.1 g) (g12.1 g))) (fun v13 g13 => ?_)
 refine sv (yOr rfl rfl (fun hB => (g13.1 hB))) ?_
 refine sv (yAsg rfl) ?_
 refine nil ?_
 show Code.wp _ _ _ _ _
 refine wp_ret ?_
 exact retV (res1 rfl rfl) hS.ext
/-- slices.IndexFunc   barrage/api.FaNode,barrage/api.FaNode  -/
theorem c_IndexNod {l : List Nod} {p : Nod → Bool} {v : Value} {g : Nat} {cl : List Value} {w0 : World} (hsl : Sl w0 5 RNod v l) (hcall : ∀ ys w, (callFunc g ys).run Tryz.prog w = .ok (.enter g ys) w) (hp : ∀ x cs w, x ∈ l → Ext w0 w → RNod w cs x → CV Tryz.prog g (.agg cs.toArray :: cl).toArray w (.bool (p x))) : CV Tryz.prog 95 #[v, .func (.func g) #[] cl.toArray] w0 (.int .i64 (idxF p l 0)) := by
 obtain ⟨a, cap, rfl, hcap, hmx, hel⟩ := hsl
 refine enter Tryz.func95 rfl Tryz.ntmps95 rfl ?_
 have hS := St.start w0
 refine seq ?_
 refine region ?_
 refine sv (yAsg rfl) ?_
 refine nil ?_
 show Code.wp _ _ _ _ _
 refine seq ?_
 refine seq ?_
 refine region ?_
 refine sv (yMove rfl) ?_
 refine sv (yLen rfl Tryz.underlying22) ?_
 refine sv (yMove rfl) ?_
 refine nil ?_
 show Code.wp _ _ _ _ _
 refine block ?_
 refine loop (fun f w zz => ∃ (k : Nat), f 0 = .slice a l.length cap ∧ f 1 = .func (.func g) #[] cl.toArray ∧ f 7 = .int .i64 (l.length : Int) ∧ f 8 = .int .i64 (k : Int) ∧ StX [] w0 w [] ∧ (k ≤ l.length) ∧ (idxF p l 0 = idxF p (l.drop k) k) ∧ zz = l.length - k) _ ⟨_, rfl, 0, rfl, rfl, rfl, rfl, hS, (Nat.zero_le _), (rfl), rfl⟩ ?_
 clear hS
 rintro f w _ ⟨k, h0, h1, h7, h8, hS, hk, hI, rfl⟩
 refine seq ?_
 refine region ?_
 refine sv (yLss h8 h7) ?_
 refine nil ?_
 show Code.wp _ _ _ _ _
 refine seq ?_
 refine cond rfl (fun c9 => ?_) (fun c9 => ?_)
 ·
  simp only [BS, ne_eq] at c9
  refine skip ?_
  show Code.wp _ _ _ _ _
  refine seq ?_
  refine block ?_
  refine seq ?_
  refine region ?_
  refine sv (yMove h8) ?_
  refine sv (yAsg rfl) ?_
  refine nil ?_
  show Code.wp _ _ _ _ _
  refine seq ?_
  refine region ?_
  obtain ⟨x, hx, hd⟩ := drop_of (l := l) (k := k) (by omega)
  obtain ⟨b, o, cs, ha, hlen, hcs, hR⟩ := hel k (by omega)
  obtain rfl : x = l[k] := (List.getElem?_eq_some_iff.1 hx).2.symm
  refine sv (yMove h1) ?_
  refine sv (yMove h0) ?_
  refine sv (yMove rfl) ?_
  refine sv (yIxa rfl ha rfl Tryz.runUnderlying22 Tryz.sizeOf96 (by omega) (by omega)) ?_
  refine sv (yLdA rfl Tryz.isAgg96 Tryz.sizeOf96 (hcs.ext hS.ext) hlen) ?_
  refine scallf rfl hcall (.cons rfl .nil) (hp _ _ _ (List.getElem_mem _) hS.ext (RNod.stays _ _ _ _ hS.ext hR)) ?_
  rintro _ w ⟨rfl, hE⟩; replace hS := hS.step hE; clear hE
  refine nil ?_
  show Code.wp _ _ _ _ _
  refine cond rfl (fun c16 => ?_) (fun c16 => ?_)
  ·
   refine seq ?_
   refine region ?_
   refine sv (yMove rfl) ?_
   refine sv (yAsg rfl) ?_
   refine nil ?_
   show Code.wp _ _ _ _ _
   refine wp_ret (blockR (thenR (thenR (blockR (thenR ?_)))))
   exact retV (res1 rfl (by rw [hI, hd, idxF, if_pos c16]; rfl)) hS.ext
  ·
   refine skip ?_
   show Code.wp _ _ _ _ _
   refine region ?_
   refine sv (yAdd h8 rfl ⟨by omega, by omega⟩) ?_
   refine sv (yMove rfl) ?_
   refine nil ?_
   exact ⟨_, _, rfl, ⟨k + 1, h0, h1, h7, rfl, hS, (by omega), (by rw [hI, hd, idxF, if_neg (by simp [c16])]; rfl), rfl⟩, by omega⟩
 ·
  simp only [BS, ne_eq] at c9
  refine exit ?_
  show Code.wp _ _ _ _ _
  refine seq ?_
  refine region ?_
  refine sv (yAsg rfl) ?_
  refine nil ?_
  show Code.wp _ _ _ _ _
  obtain rfl : k = l.length := by omega
  refine wp_ret ?_
  exact retV (res1 rfl (by rw [hI, List.drop_length]; rfl)) hS.ext
/-- slices.ContainsFunc   barrage/api.FaNode,barrage/api.FaNode  -/
theorem c_ContainsNod {l : List Nod} {p : Nod → Bool} {v : Value} {g : Nat} {cl : List Value} {w0 : World} (hsl : Sl w0 5 RNod v l) (hcall : ∀ ys w, (callFunc g ys).run Tryz.prog w = .ok (.enter g ys) w) (hp : ∀ x cs w, x ∈ l → Ext w0 w → RNod w cs x → CV Tryz.prog g (.agg cs.toArray :: cl).toArray w (.bool (p x))) : CV Tryz.prog 73 #[v, .func (.func g) #[] cl.toArray] w0 (.bool (l.any p)) := by
 refine enter Tryz.func73 rfl Tryz.ntmps73 rfl ?_
 have hS := St.start w0
 refine seq ?_
 refine region ?_
 refine sv (yAsg rfl) ?_
 refine nil ?_
 show Code.wp _ _ _ _ _
 refine seq ?_
 refine region ?_
 refine sv (yMove rfl) ?_
 refine sv (yMove rfl) ?_
 refine scall Tryz.call95 (.cons rfl (.cons rfl .nil)) (c_IndexNod hsl hcall hp) ?_
 rintro _ w ⟨rfl, hE⟩; replace hS := hS.step hE; clear hE
 refine sv (yGeq rfl rfl) ?_
 refine sv (yAsg rfl) ?_
 refine nil ?_
 show Code.wp _ _ _ _ _
 refine wp_ret ?_
 exact retV (res1 rfl (by rw [← idxF_any p l 0 (Int.le_refl 0)]; rfl)) hS.ext
/-- barrage/failure.node closure 1 -/
theorem c_node1 {x y : Nod} {cs : List Value} {iv : Value} {b : Nat} {T : TypeId} {w0 : World} (hx : RNod w0 cs x) (hb : w0.heap[b]? = some (.cells (nodL y iv).toArray T (0, 0))) : CV Tryz.prog 74 #[.agg cs.toArray, .pointer (some ⟨b, 0, none⟩)] w0 (.bool (decide (x.name = y.name))) := by
 obtain ⟨jv, rfl, -⟩ := id hx
 refine enter Tryz.func74 rfl Tryz.ntmps74 rfl ?_
 have hS := St.start w0
 refine seq ?_
 refine region ?_
 refine sbox hS rfl rfl ?_; clear hS; intro b2 w hS
 refine sv (yAsg rfl) ?_
 refine nil ?_
 show Code.wp _ _ _ _ _
 refine seq ?_
 refine region ?_
 refine sv (fa96_0 rfl) ?_
 refine sv (yLdB rfl Tryz.isAgg9 (hS.at _) rfl) ?_
 refine sv (fa96_0 rfl) ?_
 refine sv (yLdB rfl Tryz.isAgg9 (hS.ext.get hb) rfl) ?_
 refine sv (ySEq rfl rfl) ?_
 refine sv (yAsg rfl) ?_
 refine nil ?_
 show Code.wp _ _ _ _ _
 refine wp_ret ?_
 exact retV (res1 rfl rfl) hS.ext
/-- barrage/failure.node closure 2 -/
theorem c_node2 {a i : Int} {b : Nat} {T : TypeId} {w0 : World} (hb : w0.heap[b]? = some (.cells [.int .i64 i].toArray T (0, 0))) (hi : 0 ≤ i ∧ i ≤ 40) : CV Tryz.prog 75 #[.int .i64 a, .pointer (some ⟨b, 0, none⟩)] w0 (.bool (outB a 0 (i - 1))) := by
 refine enter Tryz.func75 rfl Tryz.ntmps75 rfl ?_
 have hS := St.start w0
 refine seq ?_
 refine region ?_
 refine sv (yAsg rfl) ?_
 refine nil ?_
 show Code.wp _ _ _ _ _
 refine seq ?_
 refine region ?_
 refine sv (yMove rfl) ?_
 refine sv (yLdB rfl Tryz.isAgg3 (hS.ext.get hb) rfl) ?_
 refine sv (ySub rfl rfl ⟨by omega, by omega⟩) ?_
 refine scall Tryz.call12 (.cons rfl (.cons rfl (.cons rfl .nil))) c_fout ?_
 rintro _ w ⟨rfl, hE⟩; replace hS := hS.step hE; clear hE
 refine sv (yAsg rfl) ?_
 refine nil ?_
 show Code.wp _ _ _ _ _
 refine wp_ret ?_
 exact retV (res1 rfl rfl) hS.ext
/-- barrage/failure.node -/
theorem c_node {l : List Nod} {nv : Value} {k : Nat} {w0 : World} (hn : Sl w0 5 RNod nv l) (hk : k < l.length) (hl : l.length ≤ 40) : CV Tryz.prog 58 #[.agg [nv].toArray, .int .i64 (k : Int)] w0 (.int .i64 (nodE l k)) := by
 obtain ⟨an, cn, rfl, -⟩ := id hn
 have hfit := hn.fit
 obtain ⟨bq, oq, cq, haq, -, hcq, hRq, -⟩ := sl_at hn (nd_get hk)
 obtain ⟨iv, rfl, hsz, hin⟩ := hRq
 obtain ⟨ai, ci, rfl, -, hin2, -⟩ := id hin
 refine enter Tryz.func58 rfl Tryz.ntmps58 rfl ?_
 have hS := St.start w0
 refine seq ?_
 refine region ?_
 refine sbox hS rfl rfl ?_; clear hS; intro b2 w hS
 refine sbox hS rfl rfl ?_; clear hS; intro b3 w hS
 refine sv (yAsg rfl) ?_
 refine nil ?_
 show Code.wp _ _ _ _ _
 refine seq ?_
 refine region ?_
 refine sv (fa24_0 rfl) ?_
 refine sv (yLdB rfl Tryz.isAgg22 (hS.at _) rfl) ?_
 refine sv (yLdB rfl Tryz.isAgg3 (hS.at _) rfl) ?_
 refine sv (yIxa rfl haq rfl Tryz.runUnderlying22 Tryz.sizeOf96 (by omega) (by omega)) ?_
 refine sv (yLdA rfl Tryz.isAgg96 Tryz.sizeOf96 (hcq.ext hS.ext) rfl) ?_
 refine salloc hS Tryz.zeroValue96 rfl ?_; clear hS; intro b5 w hS
 refine sst hS rfl rfl Tryz.sizeOf96 rfl rfl rfl rfl ?_; clear hS; intro w hS
 refine nil ?_
 show Code.wp _ _ _ _ _
 refine seq ?_
 refine region ?_
 replace hS : StX [] w0 w (blk b5 (nodL (nd l k) (.slice ai (nd l k).inp.length ci)) 96 :: blk b3 [.int .i64 (k : Int)] 3 :: blk b2 [.slice an l.length cn] 24 :: ([] : List Bx.Item)) := hS
 refine sv (fa96_1 rfl) ?_
 refine sv (yLdB rfl Tryz.isAgg3 (hS.at _) rfl) ?_
 refine sv (yEql rfl rfl) ?_
 refine sv (yAsg rfl) ?_
 refine nil ?_
 show Code.wp _ _ _ _ _
 refine seq ?_
 refine region ?_
 refine sv (yAsg rfl) ?_
 refine sv (yAsg rfl) ?_
 refine nil ?_
 show Code.wp _ _ _ _ _
 refine seqJ (n := 85) (fun f w => f 2 = .pointer (some ⟨b2, 0, none⟩) ∧ f 3 = .pointer (some ⟨b3, 0, none⟩) ∧ f 5 = .pointer (some ⟨b5, 0, none⟩) ∧ f 6 = .bool (decide ((nd l k).kind = 1)) ∧ f 7 = .int .i64 (leaN (nd l k)) ∧ f 8 = .int .i64 (mosN (nd l k)) ∧ StX [] w0 w (blk b5 (nodL (nd l k) (.slice ai (nd l k).inp.length ci)) 96 :: blk b3 [.int .i64 (k : Int)] 3 :: blk b2 [.slice an l.length cn] 24 :: ([] : List Bx.Item)) ∧ True) ?_ ?_
 ·
  refine seq ?_
  refine region ?_
  refine sv (yMove rfl) ?_
  refine nil ?_
  show Code.wp _ _ _ _ _
  refine cond rfl (fun c18 => ?_) (fun c18 => ?_)
  ·
   simp only [BS, ne_eq] at c18
   refine region ?_
   refine sv (yAsg rfl) ?_
   refine sv (yAsg rfl) ?_
   refine nil ?_
   exact ⟨_, rfl, rfl, rfl, rfl, rfl, (rfl.trans (congrArg (Value.int .i64) (show _ = leaN (nd l k) by unfold leaN; rw [if_pos c18]))), (rfl.trans (congrArg (Value.int .i64) (show _ = mosN (nd l k) by unfold mosN; rw [if_pos c18]))), hS, trivial⟩
  ·
   simp only [BS, ne_eq] at c18
   refine skip ?_
   exact ⟨_, rfl, rfl, rfl, rfl, rfl, (rfl.trans (congrArg (Value.int .i64) (show _ = leaN (nd l k) by unfold leaN; rw [if_neg c18]))), (rfl.trans (congrArg (Value.int .i64) (show _ = mosN (nd l k) by unfold mosN; rw [if_neg c18]))), hS, trivial⟩
 ·
  clear hS; rintro f w ⟨h2, h3, h5, h6, h7, h8, hS, -⟩
  refine seq ?_
  refine region ?_
  refine sv (fa96_3 h5) ?_
  refine sv (yLdB rfl Tryz.isAgg3 (hS.at _) rfl) ?_
  refine sv (yNeq rfl rfl) ?_
  refine sv (yAsg rfl) ?_
  refine nil ?_
  show Code.wp _ _ _ _ _
  refine seqJ (n := 85) (fun f w => f 2 = .pointer (some ⟨b2, 0, none⟩) ∧ f 3 = .pointer (some ⟨b3, 0, none⟩) ∧ f 5 = .pointer (some ⟨b5, 0, none⟩) ∧ f 6 = .bool (decide ((nd l k).kind = 1)) ∧ f 7 = .int .i64 (leaN (nd l k)) ∧ f 8 = .int .i64 (mosN (nd l k)) ∧ f 9 = .bool (cntB (nd l k)) ∧ StX [] w0 w (blk b5 (nodL (nd l k) (.slice ai (nd l k).inp.length ci)) 96 :: blk b3 [.int .i64 (k : Int)] 3 :: blk b2 [.slice an l.length cn] 24 :: ([] : List Bx.Item)) ∧ True) ?_ ?_
  ·
   refine seq ?_
   refine region ?_
   refine sv (fa96_1 h5) ?_
   refine sv (yLdB rfl Tryz.isAgg3 (hS.at _) rfl) ?_
   refine sv (yEql rfl rfl) ?_
   refine nil ?_
   show Code.wp _ _ _ _ _
   refine cond rfl (fun c24 => ?_) (fun c24 => ?_)
   ·
    simp only [BS, ne_eq] at c24
    refine region ?_
    refine sv (fa96_3 h5) ?_
    refine sv (yLdB rfl Tryz.isAgg3 (hS.at _) rfl) ?_
    refine sv (fa96_2 h5) ?_
    refine sv (yLdB rfl Tryz.isAgg26 (hS.at _) rfl) ?_
    refine sv (yLen rfl Tryz.underlying26) ?_
    refine scall Tryz.call12 (.cons rfl (.cons rfl (.cons rfl .nil))) c_fout ?_
    rintro _ w ⟨rfl, hE⟩; replace hS := hS.step hE; clear hE
    refine sv (yAsg rfl) ?_
    refine nil ?_
    exact ⟨_, rfl, h2, h3, h5, h6, h7, h8, (rfl.trans (congrArg Value.bool (show _ = cntB (nd l k) by unfold cntB; rw [if_pos c24]))), hS, trivial⟩
   ·
    simp only [BS, ne_eq] at c24
    refine skip ?_
    exact ⟨_, rfl, h2, h3, h5, h6, h7, h8, (rfl.trans (congrArg Value.bool (show _ = cntB (nd l k) by unfold cntB; rw [if_neg c24]))), hS, trivial⟩
  ·
   clear hS; rintro f w ⟨h2, h3, h5, h6, h7, h8, h9, hS, -⟩
   refine seq ?_
   refine block ?_
   refine seq ?_
   refine region ?_
   refine sv (fa96_0 h5) ?_
   refine sv (yLdB rfl Tryz.isAgg9 (hS.at _) rfl) ?_
   refine scall Tryz.call41 (.cons rfl .nil) (c_Name hsz) ?_
   rintro _ w ⟨rfl, hE⟩; replace hS := hS.step hE; clear hE
   refine sv (yNot rfl) ?_
   refine sv (yAsg rfl) ?_
   refine nil ?_
   show Code.wp _ _ _ _ _
   refine cond rfl (fun c31 => ?_) (fun c31 => ?_)
   ·
    refine seq ?_
    refine region ?_
    refine sv (yAsg rfl) ?_
    refine nil ?_
    show Code.wp _ _ _ _ _
    refine wp_ret (blockR (thenR ?_))
    exact retV (res1 rfl (eqI (by unfold nodE; rw [if_pos c31]))) hS.ext
   ·
    refine seq ?_
    refine region ?_
    refine sv (fa24_0 h2) ?_
    refine sv (yLdB rfl Tryz.isAgg22 (hS.at _) rfl) ?_
    refine sv (yLdB h3 Tryz.isAgg3 (hS.at _) rfl) ?_
    refine sv (yTo rfl rfl Tryz.underlying22 Tryz.sizeOf96 (by omega)) ?_
    refine sv (yFn (.cons h5 .nil)) ?_
    refine scall Tryz.call73 (.cons rfl (.cons rfl .nil)) (c_ContainsNod (p := fun y => decide (y.name = (nd l k).name)) (cl := [.pointer (some ⟨b5, 0, none⟩)]) ((hn.ext RNod.stays hS.ext).take (by omega)) Tryz.call74 (fun x cs w _ e hR => c_node1 hR (e.get (hS.at b5)))) ?_
    rintro _ w ⟨rfl, hE⟩; replace hS := hS.step hE; clear hE
    refine sv (yAsg rfl) ?_
    refine nil ?_
    show Code.wp _ _ _ _ _
    refine cond rfl (fun c36 => ?_) (fun c36 => ?_)
    ·
     refine seq ?_
     refine region ?_
     refine sv (yAsg rfl) ?_
     refine nil ?_
     show Code.wp _ _ _ _ _
     refine wp_ret (blockR (thenR ?_))
     exact retV (res1 rfl (eqI (by unfold nodE; rw [if_neg (by rw [c31]; decide), if_pos c36]))) hS.ext
    ·
     refine seq ?_
     refine region ?_
     refine sv (fa96_1 h5) ?_
     refine sv (yLdB rfl Tryz.isAgg3 (hS.at _) rfl) ?_
     refine scall Tryz.call12 (.cons rfl (.cons rfl (.cons rfl .nil))) c_fout ?_
     rintro _ w ⟨rfl, hE⟩; replace hS := hS.step hE; clear hE
     refine sv (yAsg rfl) ?_
     refine nil ?_
     show Code.wp _ _ _ _ _
     refine cond rfl (fun c43 => ?_) (fun c43 => ?_)
     ·
      refine seq ?_
      refine region ?_
      refine sv (yAsg rfl) ?_
      refine nil ?_
      show Code.wp _ _ _ _ _
      refine wp_ret (blockR (thenR ?_))
      exact retV (res1 rfl (eqI (by unfold nodE; rw [if_neg (by rw [c31]; decide), if_neg (by rw [c36]; decide), if_pos c43]))) hS.ext
     ·
      refine seq ?_
      refine region ?_
      refine sv (fa96_2 h5) ?_
      refine sv (yLdB rfl Tryz.isAgg26 (hS.at _) rfl) ?_
      refine sv (yLen rfl Tryz.underlying26) ?_
      refine sv (yMove h7) ?_
      refine sv (yMove h8) ?_
      refine scall Tryz.call12 (.cons rfl (.cons rfl (.cons rfl .nil))) c_fout ?_
      rintro _ w ⟨rfl, hE⟩; replace hS := hS.step hE; clear hE
      refine sv (yAsg rfl) ?_
      refine nil ?_
      show Code.wp _ _ _ _ _
      refine cond rfl (fun c47 => ?_) (fun c47 => ?_)
      ·
       refine seq ?_
       refine region ?_
       refine sv (yAsg rfl) ?_
       refine nil ?_
       show Code.wp _ _ _ _ _
       refine wp_ret (blockR (thenR ?_))
       exact retV (res1 rfl (eqI (by unfold nodE; rw [if_neg (by rw [c31]; decide), if_neg (by rw [c36]; decide), if_neg (by rw [c43]; decide), if_pos c47]))) hS.ext
      ·
       have hln := outB_false.1 c47
       have hmo : mosN (nd l k) ≤ 10 := by unfold mosN; split <;> omega
       refine seq ?_
       refine region ?_
       refine sv (fa96_2 h5) ?_
       refine sv (yLdB rfl Tryz.isAgg26 (hS.at _) rfl) ?_
       refine sv (yFn (.cons h3 .nil)) ?_
       refine scall Tryz.call68 (.cons rfl (.cons rfl .nil)) (c_ContainsFuncInt (p := fun n => outB n 0 ((k : Int) - 1)) (cl := [.pointer (some ⟨b3, 0, none⟩)]) (hin.ext RInt.stays hS.ext) Tryz.call75 (fun a cs w _ e _ => c_node2 (e.get (hS.at b3)) (by omega))) ?_
       rintro _ w ⟨rfl, hE⟩; replace hS := hS.step hE; clear hE
       refine sv (yAsg rfl) ?_
       refine nil ?_
       show Code.wp _ _ _ _ _
       refine cond rfl (fun c54 => ?_) (fun c54 => ?_)
       ·
        refine seq ?_
        refine region ?_
        refine sv (yAsg rfl) ?_
        refine nil ?_
        show Code.wp _ _ _ _ _
        refine wp_ret (blockR (thenR ?_))
        exact retV (res1 rfl (eqI (by unfold nodE; rw [if_neg (by rw [c31]; decide), if_neg (by rw [c36]; decide), if_neg (by rw [c43]; decide), if_neg (by rw [c47]; decide), if_pos c54]))) hS.ext
       ·
        refine seq ?_
        refine region_mix (fun w => StX [] w0 w (blk b5 (nodL (nd l k) (.slice ai (nd l k).inp.length ci)) 96 :: blk b3 [.int .i64 (k : Int)] 3 :: blk b2 [.slice an l.length cn] 24 :: ([] : List Bx.Item))) 11 mixed hS ?_
        clear hS; intro w hS
        refine f_step 0 (by kernel_rfl) rfl (fun c a a' w h => by obtain ⟨_, v, hv, _⟩ := h; cases hv) (by refine hS.sub ?_; repeat first | exact List.Sublist.refl _ | exact List.nil_sublist _ | apply List.Sublist.cons_cons | apply List.Sublist.cons) (fun w hS => (fa96_2 h5)) ?_
        refine f_step 1 (by kernel_rfl) rfl (fun c a a' w h => by obtain ⟨_, v, hv, _⟩ := h; cases hv) (by refine hS.sub ?_; repeat first | exact List.Sublist.refl _ | exact List.nil_sublist _ | apply List.Sublist.cons_cons | apply List.Sublist.cons) (fun w hS => (yLdB rfl Tryz.isAgg26 (hS.at _) rfl)) ?_
        refine f_step 6 (by kernel_rfl) rfl (fun c a a' w h => by obtain ⟨_, v, hv, _⟩ := h; cases hv) (by refine hS.sub ?_; repeat first | exact List.Sublist.refl _ | exact List.nil_sublist _ | apply List.Sublist.cons_cons | apply List.Sublist.cons) (fun w hS => (fa96_2 h5)) ?_
        refine f_step 7 (by kernel_rfl) rfl (fun c a a' w h => by obtain ⟨_, v, hv, _⟩ := h; cases hv) (by refine hS.sub ?_; repeat first | exact List.Sublist.refl _ | exact List.nil_sublist _ | apply List.Sublist.cons_cons | apply List.Sublist.cons) (fun w hS => (yLdB rfl Tryz.isAgg26 (hS.at _) rfl)) ?_
        refine f_step 8 (by kernel_rfl) rfl (fun c a a' w h => by obtain ⟨_, v, hv, _⟩ := h; cases hv) (by refine hS.sub ?_; repeat first | exact List.Sublist.refl _ | exact List.nil_sublist _ | apply List.Sublist.cons_cons | apply List.Sublist.cons) (fun w hS => (yLen rfl Tryz.underlying26)) ?_
        show wpA _ _ _ _ _ _ _ _ _ _
        refine a_step (i := 2) (is := []) (by kernel_rfl) ⟨?_, trivial⟩
        refine ⟨_, rfl, ?_⟩
        refine scall Tryz.call78 (.cons rfl .nil) c_Values ?_
        rintro _ w ⟨bv, rfl, hM⟩; replace hS := hS.call1 hM; clear hM
        refine nil ?_
        refine ⟨fun _ => (by refine hS.sub ?_; repeat first | exact List.Sublist.refl _ | exact List.nil_sublist _ | apply List.Sublist.cons_cons | apply List.Sublist.cons), ?_⟩
        show wpA _ _ _ _ _ _ _ _ _ _
        show wpA _ _ _ _ _ _ _ _ _ _
        refine a_step (i := 3) (is := []) (by kernel_rfl) ⟨?_, trivial⟩
        refine ⟨_, rfl, ?_⟩
        refine scall Tryz.call77 (.cons rfl .nil) (c_Sorted (fun w' e => it_Values ((hin.ext RInt.stays hS.ext).ext RInt.stays e) (e.get (hS.at bv))) Tryz.call97 (show Room (nd l k).inp.length 8 by unfold Room; omega)) ?_
        rintro sv w hM; replace hS := hS.call1 hM; clear hM
        obtain ⟨av, cv, rfl⟩ := row_shape (hS.row sv)
        have hsl := (sortI_perm (nd l k).inp).length_eq
        refine nil ?_
        refine ⟨fun _ => (by refine hS.sub ?_; repeat first | exact List.Sublist.refl _ | exact List.nil_sublist _ | apply List.Sublist.cons_cons | apply List.Sublist.cons), ?_⟩
        show wpA _ _ _ _ _ _ _ _ _ _
        show wpA _ _ _ _ _ _ _ _ _ _
        refine a_step (i := 4) (is := []) (by kernel_rfl) ⟨?_, trivial⟩
        refine ⟨_, rfl, ?_⟩
        refine scall Tryz.call76 (.cons rfl .nil) (c_Compact (hS.row (.slice av (sortI (nd l k).inp).length cv)) (by rw [(sortI_perm (nd l k).inp).length_eq]; omega)) ?_
        rintro u w ⟨hu, hM⟩
        have hu2 : u = .slice av (compL (sortI (nd l k).inp)).length cv := hu
        subst hu2
        clear hu
        replace hS := hS.app (v := .slice av (sortI (nd l k).inp).length cv) (v' := .slice av (compL (sortI (nd l k).inp)).length cv) (hM.row _) hM.grown (.inl own_slice)
        clear hM
        refine nil ?_
        refine ⟨fun _ => (by refine hS.sub ?_; repeat first | exact List.Sublist.refl _ | exact List.nil_sublist _ | apply List.Sublist.cons_cons | apply List.Sublist.cons), ?_⟩
        show wpA _ _ _ _ _ _ _ _ _ _
        refine f_step 5 (by kernel_rfl) rfl (fun c a a' w h => by obtain ⟨_, v, hv, _⟩ := h; cases hv) (by refine hS.sub ?_; repeat first | exact List.Sublist.refl _ | exact List.nil_sublist _ | apply List.Sublist.cons_cons | apply List.Sublist.cons) (fun w hS => (yLen rfl Tryz.underlying26)) ?_
        refine f_step 9 (by kernel_rfl) rfl (fun c a a' w h => by obtain ⟨_, v, hv, _⟩ := h; cases hv) (by refine hS.sub ?_; repeat first | exact List.Sublist.refl _ | exact List.nil_sublist _ | apply List.Sublist.cons_cons | apply List.Sublist.cons) (fun w hS => (yLss rfl rfl)) ?_
        refine f_step 10 (by kernel_rfl) rfl (fun c a a' w h => by obtain ⟨_, v, hv, _⟩ := h; cases hv) (by refine hS.sub ?_; repeat first | exact List.Sublist.refl _ | exact List.nil_sublist _ | apply List.Sublist.cons_cons | apply List.Sublist.cons) (fun w hS => (yAsg rfl)) ?_
        refine a_end (by kernel_rfl) ?_
        show Code.wp _ _ _ _ _
        refine cond rfl (fun c59 => ?_) (fun c59 => ?_)
        ·
         simp only [BS, ne_eq] at c59
         refine seq ?_
         refine region ?_
         refine sv (yAsg rfl) ?_
         refine nil ?_
         show Code.wp _ _ _ _ _
         refine wp_ret (blockR (thenR ?_))
         exact retV (res1 rfl (eqI (by unfold nodE; rw [if_neg (by rw [c31]; decide), if_neg (by rw [c36]; decide), if_neg (by rw [c43]; decide), if_neg (by rw [c47]; decide), if_neg (by rw [c54]; decide), if_pos c59]))) hS.ext
        ·
         simp only [BS, ne_eq] at c59
         refine seq ?_
         refine region ?_
         refine sv (yMove h9) ?_
         refine sv (yMove rfl) ?_
         refine sg rfl rfl rfl (fun g => (fa96_4 h5)) (fun v73 g73 => ?_)
         refine sg rfl rfl rfl (fun g => (yLdB (g73.1 g) Tryz.isAgg3 (hS.at _) rfl)) (fun v74 g74 => ?_)
         refine sgc hS rfl rfl rfl Tryz.call12 (fun g => (.cons (g74.1 g) (.cons rfl (.cons rfl .nil)))) (fun g => c_fout) ?_; clear hS; intro v75 w hS g75
         refine sv (yOr rfl rfl (fun hB => (g75.1 hB))) ?_
         refine sv (yMove rfl) ?_
         refine sg rfl rfl rfl (fun g => (yMove h6)) (fun v78 g78 => ?_)
         refine sg rfl rfl rfl (fun g => (yMove (g78.1 g))) (fun v79 g79 => ?_)
         refine sgg rfl rfl g79 (fun g => (fa96_4 h5)) (fun v80 g80 => ?_)
         refine sgg rfl rfl g79 (fun g => (yLdB (g80.1 g) Tryz.isAgg3 (hS.at _) rfl)) (fun v81 g81 => ?_)
         refine sgg rfl rfl g79 (fun g => (yGtr (g81.1 g) rfl)) (fun v82 g82 => ?_)
         refine sg rfl rfl rfl (fun g => (yAnd (g79.1 g) (fun hB => (g82.1 ⟨g, hB⟩)) rfl)) (fun v83 g83 => ?_)
         refine sv (yOr rfl rfl (fun hB => (g83.1 hB))) ?_
         refine sv (yAsg rfl) ?_
         refine nil ?_
         show Code.wp _ _ _ _ _
         refine cond rfl (fun c70 => ?_) (fun c70 => ?_)
         ·
          refine seq ?_
          refine region ?_
          refine sv (yAsg rfl) ?_
          refine nil ?_
          show Code.wp _ _ _ _ _
          refine wp_ret (blockR (thenR ?_))
          exact retV (res1 rfl (eqI (by unfold nodE; rw [if_neg (by rw [c31]; decide), if_neg (by rw [c36]; decide), if_neg (by rw [c43]; decide), if_neg (by rw [c47]; decide), if_neg (by rw [c54]; decide), if_neg c59, if_pos (show lasB (nd l k) = true from c70)]))) hS.ext
         ·
          refine skip ?_
          show Code.wp _ _ _ _ _
          refine seq ?_
          refine region ?_
          refine sv (yAsg rfl) ?_
          refine nil ?_
          show Code.wp _ _ _ _ _
          refine wp_ret ?_
          exact retV (res1 rfl (eqI (by unfold nodE; rw [if_neg (by rw [c31]; decide), if_neg (by rw [c36]; decide), if_neg (by rw [c43]; decide), if_neg (by rw [c47]; decide), if_neg (by rw [c54]; decide), if_neg c59, if_neg (by rw [show lasB (nd l k) = false from c70]; decide)]))) hS.ext
end Go.Proofs.YtbbpiebhnbhbiaaGreat
