/- Merged texts, part 5. -/
import Derived.Test.YtmoilbakmlekbaaGreatDoorQ4
import Derived.Scope
import Derived.Test.YtmoilbakmlekbaaGreatDoorRows
import Derived.ChangeSame
import Derived.ChangeVars
import Derived.JoinedOf
import Derived.RowKit
import Derived.RowKitTokens
import Derived.LaidLaws
import Derived.LaidHandle
import Derived.Stop.Joined
set_option linter.all false
/- part LibB2 -/
namespace Bx
open Go Go.RowKit
theorem StX.takeI {S : List Nat} {w0 w : World} {A B L : List Item} {x : Item} (h : StX S w0 w (packI (A ++ x :: B) :: L)) : StX S w0 w (x :: packI (A ++ B) :: L) := by
  have h1 := h.unpack
  have h2 : StX S w0 w ((A ++ B) ++ (x :: L)) := h1.perm (by
    rw [List.append_assoc, List.append_assoc, List.cons_append]
    refine List.Perm.append_left A ?_
    exact (List.perm_middle (a := x) (l₁ := B) (l₂ := L)).symm)
  exact h2.pack.perm (List.Perm.swap _ _ _)
theorem StX.putI {S : List Nat} {w0 w : World} {A B L : List Item} {x : Item} (h : StX S w0 w (x :: packI (A ++ B) :: L)) : StX S w0 w (packI (A ++ x :: B) :: L) := by
  have h1 := (h.perm (List.Perm.swap _ _ _)).unpack
  have h2 : StX S w0 w ((A ++ x :: B) ++ L) := h1.perm (by
    rw [List.append_assoc, List.append_assoc, List.cons_append]
    refine List.Perm.append_left A ?_
    exact List.perm_middle (a := x) (l₁ := B) (l₂ := L))
  exact h2.pack
/-- The inner rows of numbers. -/
def inR (v : Value) (z : List Int) : Item := rowI v 3 1 z.length (z.flatMap encI)
def inI (vs : List Value) (zs : List (List Int)) : List Item := List.zipWith inR vs zs
theorem inI_snoc {vs : List Value} {zs : List (List Int)} (h : vs.length = zs.length) (v : Value) (z : List Int) : inI (vs ++ [v]) (zs ++ [z]) = inI vs zs ++ [inR v z] := by
  unfold inI
  rw [List.zipWith_append h]; rfl
theorem inI_split {vs : List Value} {zs : List (List Int)} {k : Nat} {v : Value} {z : List Int} (hv : vs[k]? = some v) (hz : zs[k]? = some z) : inI vs zs = inI (vs.take k) (zs.take k) ++ inR v z :: inI (vs.drop (k + 1)) (zs.drop (k + 1)) := by
  have e1 : vs = vs.take k ++ v :: vs.drop (k + 1) := by
    have := cut_at hv
    rw [List.append_assoc, List.singleton_append] at this
    exact this.symm
  have e2 : zs = zs.take k ++ z :: zs.drop (k + 1) := by
    have := cut_at hz
    rw [List.append_assoc, List.singleton_append] at this
    exact this.symm
  have hl : (vs.take k).length = (zs.take k).length := by
    have h1 := (List.getElem?_eq_some_iff.1 hv).1
    have h2 := (List.getElem?_eq_some_iff.1 hz).1
    rw [List.length_take, List.length_take]; omega
  unfold inI
  conv => lhs; rw [e1, e2]
  rw [List.zipWith_append hl]; rfl
theorem inI_set {vs : List Value} {zs : List (List Int)} {k : Nat} {v v' : Value} {z z' : List Int} (hv : vs[k]? = some v) (hz : zs[k]? = some z) : inI (vs.set k v') (zs.set k z') = inI (vs.take k) (zs.take k) ++ inR v' z' :: inI (vs.drop (k + 1)) (zs.drop (k + 1)) := by
  have h1 := (List.getElem?_eq_some_iff.1 hv).1
  have h2 := (List.getElem?_eq_some_iff.1 hz).1
  rw [inI_split (vs := vs.set k v') (zs := zs.set k z') (k := k) (v := v') (z := z') (by rw [List.getElem?_set_self h1]) (by rw [List.getElem?_set_self h2])]
  rw [List.take_set, List.take_set, List.set_eq_of_length_le (by rw [List.length_take]; omega), List.set_eq_of_length_le (by rw [List.length_take]; omega), List.drop_set_of_lt (by omega), List.drop_set_of_lt (by omega)]
theorem inI_get {vs : List Value} {zs : List (List Int)} {k : Nat} {v : Value} {z : List Int} (hv : vs[k]? = some v) (hz : zs[k]? = some z) : inR v z ∈ inI vs zs := by
  rw [inI_split hv hz]; simp
/-- What rows of rows say, read as a slice of slices. -/
theorem sl_rows2 {R : World → List Value → List Int → Prop} (hR : ∀ w v z, Sl w 1 RInt v z → R w [v] z) {w : World} {E : TypeId} {lv : Value} {vs : List Value} {zs : List (List Int)} (hl : vs.length = zs.length) (hrow : w.ownsRow 0 E 1 lv zs.length vs) (hin : ∀ it ∈ inI vs zs, it.ok w) (hz : ∀ z ∈ zs, ∀ x ∈ z, I64 x) : Sl w 1 R lv zs := by
  have key : ∀ (vs : List Value) (zs : List (List Int)), vs.length = zs.length → (∀ it ∈ inI vs zs, it.ok w) → (∀ z ∈ zs, ∀ x ∈ z, I64 x) → Bx.Rows w 1 R (vs.map fun v => [v]) zs := by
    intro vs
    induction vs with
    | nil => intro zs h _ _; cases zs with
      | nil => trivial
      | cons z zs => simp at h
    | cons v vs ih => intro zs h h1 h2; cases zs with
      | nil => simp at h
      | cons z zs =>
        have h0 : (inR v z).ok w := h1 _ (by unfold inI; rw [List.zipWith_cons_cons]; exact List.mem_cons_self ..)
        have hr : w.ownsRow 0 3 1 v z.length (z.flatMap encI) := h0
        exact ⟨rfl, hR _ _ _ (sl_ints hr rfl (h2 z (List.mem_cons_self ..))), ih zs (by simpa using h) (fun it hit => h1 it (by unfold inI; rw [List.zipWith_cons_cons]; exact List.mem_cons_of_mem _ hit)) (fun y hy => h2 y (List.mem_cons_of_mem _ hy))⟩
  have e : ∀ vs : List Value, (vs.map fun v => [v]).flatten = vs := by
    intro vs
    induction vs with
    | nil => rfl
    | cons v vs ih => rw [List.map_cons, List.flatten_cons, ih]; rfl
  exact sl_of_row (by rw [e]; exact hrow) (key vs zs hl hin hz) rfl
end Bx
namespace Bx
open Go Go.RowKit
theorem out_cell {w : World} {g z : Nat} {vs : List Value} {v : Value} (h : Cells w g 0 vs) (hv : vs[z]? = some v) : w.cell? ⟨g, z * 1, none⟩ = some v := by
  have := h z v hv
  rwa [Nat.zero_add, ← Nat.mul_one z] at this
theorem splice_one {vs : List Value} {z : Nat} {v : Value} (h : z < vs.length) : splice vs (z * 1) [v] = vs.set z v := by
  unfold splice
  rw [Nat.mul_one, List.set_eq_take_append_cons_drop, if_pos h]
  simp
end Bx

/- part A31 -/
namespace Bx
open Go Go.RowKit
def zoneZ (t : Task) (now wd i : Int) : Int := max 0 ((arr t i).1.lo - now) / wd
def padZ (zs : List (List Int)) (m : Nat) : List (List Int) := zs ++ List.replicate m []
def zStep (f : Int → Int) (zs : List (List Int)) (i : Int) : List (List Int) :=
  let p := padZ zs ((f i).toNat + 1 - zs.length)
  p.set (f i).toNat (p.getD (f i).toNat [] ++ [i])
def zFold (f : Int → Int) (l : List Int) : List (List Int) := l.foldl (zStep f) []
def ordZ (t : Task) : List Int := sortV (fun i => (arr t i).1.lo) (wetL t)
def zE0 (t : Task) (now wd : Int) : Int := if atE t now ≠ 0 then atE t now else if outB wd 1 500 = true then 7 else 0
def zonesE (t : Task) (now wd : Int) : Int := if zE0 t now wd ≠ 0 then zE0 t now wd else if ((ordZ t).any fun i => decide (50 ≤ zoneZ t now wd i)) = true then 3 else 0
def zonesR (t : Task) (now wd : Int) : List (List Int) × Int := if zonesE t now wd ≠ 0 then ([], zonesE t now wd) else (zFold (zoneZ t now wd) (ordZ t), 0)
theorem zFold_snoc (f : Int → Int) (l : List Int) (i : Int) : zFold f (l ++ [i]) = zStep f (zFold f l) i := by unfold zFold; rw [List.foldl_append]; rfl
theorem zFold_step (f : Int → Int) {l : List Int} {k : Nat} {i : Int} (h : l[k]? = some i) : zFold f (l.take (k + 1)) = zStep f (zFold f (l.take k)) i := by rw [take_snoc h, zFold_snoc]
theorem padZ_len (zs : List (List Int)) (m : Nat) : (padZ zs m).length = zs.length + m := by simp [padZ]
theorem padZ_succ (zs : List (List Int)) (m : Nat) : padZ zs (m + 1) = padZ zs m ++ [[]] := by unfold padZ; rw [List.replicate_succ', List.append_assoc]
theorem padZ_get (zs : List (List Int)) (m k : Nat) : (padZ zs m)[k]? = if k < zs.length then zs[k]? else if k < zs.length + m then some [] else none := by
  unfold padZ
  rw [List.getElem?_append]
  split
  · rfl
  · rw [List.getElem?_replicate]
    by_cases h : k < zs.length + m
    · rw [if_pos h, if_pos (by omega)]
    · rw [if_neg h, if_neg (by omega)]
theorem zoneZ_bd {t : Task} {now wd i : Int} (hw : 1 ≤ wd) : 0 ≤ zoneZ t now wd i := Int.ediv_nonneg (by omega) (by omega)
/-- What the zones are: in each those of the towns whose zone it is. -/
structure ZonesOf (f : Int → Int) (l : List Int) (zs : List (List Int)) : Prop where
  get : ∀ k, k < zs.length → zs[k]? = some (l.filter fun i => decide (f i = (k : Int)))
  lt : ∀ i ∈ l, f i < zs.length
  last : 0 < zs.length → ∃ i ∈ l, f i = (zs.length : Int) - 1
theorem zFold_of {f : Int → Int} {l : List Int} (hf : ∀ i ∈ l, 0 ≤ f i) : ZonesOf f l (zFold f l) := by
  induction l using snocR with
  | h0 => exact ⟨fun k h => absurd h (Nat.not_lt_zero k), fun i h => (nomatch h), fun h => absurd h (Nat.lt_irrefl 0)⟩
  | h1 l x ih =>
    have ih := ih fun i hi => hf i (List.mem_append_left _ hi)
    have hx := hf x (by simp)
    rw [zFold_snoc]
    generalize zFold f l = zs at ih ⊢
    obtain ⟨n, hn⟩ : ∃ n : Nat, f x = (n : Int) := ⟨(f x).toNat, by omega⟩
    have en : (f x).toNat = n := by omega
    unfold zStep
    rw [en]
    simp only
    have hpl : (padZ zs (n + 1 - zs.length)).length = max zs.length (n + 1) := by rw [padZ_len]; omega
    have hnil : zs.length ≤ n → (l.filter fun i => decide (f i = (n : Int))) = [] := fun h => by
      rw [List.filter_eq_nil_iff]
      intro i hi
      have := ih.lt i hi
      simp; omega
    have hgn : (padZ zs (n + 1 - zs.length)).getD n [] = l.filter fun i => decide (f i = (n : Int)) := by
      rw [List.getD_eq_getElem?_getD, padZ_get]
      by_cases h : n < zs.length
      · rw [if_pos h, ih.get n h]; rfl
      · rw [if_neg h, if_pos (by omega), hnil (by omega)]; rfl
    refine ⟨fun k hk => ?_, fun i hi => ?_, fun _ => ?_⟩
    · rw [List.length_set, hpl] at hk
      rw [List.getElem?_set, hgn, List.filter_append]
      by_cases e : n = k
      · subst e
        rw [if_pos rfl, if_pos (by rw [hpl]; omega), List.filter_cons_of_pos (by simpa using hn), List.filter_nil]
      · rw [if_neg e, List.filter_cons_of_neg (by simp; omega), List.filter_nil, List.append_nil, padZ_get]
        by_cases h : k < zs.length
        · rw [if_pos h, ih.get k h]
        · rw [if_neg h, if_pos (by omega)]
          congr 1
          symm
          rw [List.filter_eq_nil_iff]
          intro i hi
          have := ih.lt i hi
          simp; omega
    · rw [List.length_set, hpl]
      rcases List.mem_append.1 hi with hi | hi
      · have := ih.lt i hi; omega
      · rw [List.mem_singleton.1 hi]; omega
    · rw [List.length_set, hpl]
      by_cases h : n < zs.length
      · obtain ⟨i, hi, e⟩ := ih.last (by omega)
        exact ⟨i, by simp [hi], by omega⟩
      · exact ⟨x, by simp, by omega⟩
theorem zE0_ok {t : Task} {now wd : Int} (h : zE0 t now wd = 0) : (checkA t).2.2 = 0 ∧ (0 ≤ now ∧ now ≤ 200000) ∧ 1 ≤ wd ∧ wd ≤ 500 := by
  unfold zE0 at h
  split at h
  next h1 => exact absurd h h1
  next h1 =>
    split at h
    next => cases h
    next h4 =>
      have h6 := Decidable.not_not.1 h1
      have hck : (checkA t).2.2 = 0 := by
        by_cases e : (checkA t).2.2 = 0
        · exact e
        · exact absurd (by unfold atE; rw [if_pos e]; exact e) (by rw [h6]; decide : ¬ atE t now ≠ 0)
      exact ⟨hck, (atE_ok h6).2, outB_false.1 (by simpa using h4)⟩
theorem zE0_at {t : Task} {now wd : Int} (h : atE t now ≠ 0) : zE0 t now wd = atE t now := if_pos h
theorem zE0_wd {t : Task} {now wd : Int} (h : atE t now = 0) (h2 : outB wd 1 500 = true) : zE0 t now wd = 7 := by unfold zE0; rw [if_neg (fun k => k h), if_pos h2]
theorem zE0_0 {t : Task} {now wd : Int} (h : atE t now = 0) (h2 : outB wd 1 500 = false) : zE0 t now wd = 0 := by unfold zE0; rw [if_neg (fun k => k h), if_neg (by rw [h2]; decide)]
theorem zones_err {t : Task} {now wd e : Int} (h : zE0 t now wd = e) (he : e ≠ 0) : zonesR t now wd = ([], e) := by
  have : zonesE t now wd = e := by unfold zonesE; rw [h, if_pos he]
  unfold zonesR; rw [this, if_pos he]
theorem zones_far {t : Task} {now wd i : Int} (h : zE0 t now wd = 0) (hi : i ∈ ordZ t) (h5 : 50 ≤ zoneZ t now wd i) : zonesR t now wd = ([], 3) := by
  have : zonesE t now wd = 3 := by unfold zonesE; rw [if_neg (fun k => k h), if_pos (List.any_eq_true.2 ⟨i, hi, decide_eq_true h5⟩)]
  unfold zonesR; rw [this, if_pos (by decide)]
theorem zones_in {t : Task} {now wd : Int} (h : zE0 t now wd = 0) (h5 : ∀ i ∈ ordZ t, zoneZ t now wd i < 50) : zonesR t now wd = (zFold (zoneZ t now wd) (ordZ t), 0) := by
  have : zonesE t now wd = 0 := by
    unfold zonesE
    rw [if_neg (fun k => k h), if_neg]
    rw [List.any_eq_true]
    rintro ⟨i, hi, k⟩
    have := h5 i hi
    have := of_decide_eq_true k
    omega
  unfold zonesR; rw [this, if_neg (by decide)]
theorem mem_ordZ {t : Task} {i : Int} : i ∈ ordZ t ↔ i ∈ wetL t := mem_sortV
theorem ordZ_len (t : Task) : (ordZ t).length = (wetL t).length := sortV_len _ _
theorem zFold_mem {f : Int → Int} {l : List Int} (hf : ∀ i ∈ l, 0 ≤ f i) : ∀ z ∈ zFold f l, ∀ x ∈ z, x ∈ l := fun z hz x hx => by
  obtain ⟨k, hk, rfl⟩ := List.getElem_of_mem hz
  have := (zFold_of hf).get k hk
  rw [List.getElem?_eq_getElem hk] at this
  rw [Option.some.inj this] at hx
  exact (List.mem_filter.1 hx).1
/-- A step of the walk: the zone of a town, opened. -/
theorem zone_set {f : Int → Int} {l : List Int} {k z : Nat} {i : Int} {z0 : List Int} (hi : l[k]? = some i) (hz : f i = (z : Int)) (h0 : (padZ (zFold f (l.take k)) (z + 1 - (zFold f (l.take k)).length))[z]? = some z0) :
    zFold f (l.take (k + 1)) = (padZ (zFold f (l.take k)) (z + 1 - (zFold f (l.take k)).length)).set z (z0 ++ [i]) := by
  have e : (f i).toNat = z := by omega
  rw [zFold_step f hi]
  unfold zStep
  simp only [e]
  rw [List.getD_eq_getElem?_getD, h0]; rfl
theorem padZ_0 (zs : List (List Int)) : padZ zs 0 = zs := by simp [padZ]
theorem wet_mem {t : Task} {i : Int} (h : i ∈ wetL t) : 0 ≤ i ∧ i < t.towns.length := (mem_wetL.1 h).1
theorem zFold_rows (f : Int → Int) : ∀ (l : List Int), ∀ z ∈ zFold f l, z.length ≤ l.length := by
  intro l
  induction l using snocR with
  | h0 => intro z hz; cases hz
  | h1 l x ih =>
    rw [zFold_snoc]
    intro z hz
    unfold zStep at hz
    rw [List.length_append, List.length_singleton]
    have hp : ∀ z ∈ padZ (zFold f l) ((f x).toNat + 1 - (zFold f l).length), z.length ≤ l.length := by
      intro z hz
      rcases List.mem_append.1 hz with h | h
      · exact ih z h
      · rw [List.eq_of_mem_replicate h]; exact Nat.zero_le _
    rcases List.mem_or_eq_of_mem_set hz with h | h
    · have := hp z h; omega
    · rw [h, List.length_append, List.length_singleton, List.getD_eq_getElem?_getD]
      cases hq : (padZ (zFold f l) ((f x).toNat + 1 - (zFold f l).length))[(f x).toNat]? with
      | none => simp
      | some y => have := hp y (List.mem_of_getElem? hq); simp; omega
theorem zFold_row {f : Int → Int} {l : List Int} {k z : Nat} {i : Int} {z0 : List Int} (_ : l[k]? = some i) (_ : f i = (z : Int)) (h0 : (padZ (zFold f (l.take k)) (z + 1 - (zFold f (l.take k)).length))[z]? = some z0) : z0.length ≤ k := by
  rcases List.mem_append.1 (List.mem_of_getElem? h0) with h | h
  · have := zFold_rows f _ z0 h
    rw [List.length_take] at this; omega
  · rw [List.eq_of_mem_replicate h]; exact Nat.zero_le _
end Bx

/- part Aw38 -/
namespace Go.Proofs.YtmoilbakmlekbaaGreatDoor
open Go Bx
/-- barrage/barrageref01.Ints -/
theorem c_Ints {la lb : List Int} {va vb : Value} {w0 : World} (ha : Sl w0 1 RInt va la) (hb : Sl w0 1 RInt vb lb) : CV Tryz.prog 41 #[va, vb] w0 (.bool (decide (la = lb))) := by
  obtain ⟨aa, ca, rfl, hca, hma, hela⟩ := ha
  obtain ⟨ab, cb, rfl, hcb, hmb, helb⟩ := hb
  refine enter Tryz.func41 rfl Tryz.ntmps41 rfl ?_
  have hS := St.start w0
  refine seq ?_
  refine region ?_
  refine sv (yAsg rfl) ?_
  refine nil ?_
  show Code.wp _ _ _ _ _
  refine seq ?_
  refine seq ?_
  refine region ?_
  refine sv (yMove rfl) ?_
  refine sv (yLen rfl Tryz.underlying34) ?_
  refine sv (yMove rfl) ?_
  refine sv (yLen rfl Tryz.underlying34) ?_
  refine sv (yNeq rfl rfl) ?_
  refine nil ?_
  show Code.wp _ _ _ _ _
  refine cond rfl (fun c10 => ?_) (fun c10 => ?_)
  ·
    simp only [Bool.and_eq_true, Bool.or_eq_true, Bool.and_eq_false_iff, Bool.or_eq_false_iff, decide_eq_true_eq, decide_eq_false_iff_not, Bool.not_eq_true, Bool.not_eq_false, Bool.not_not, Bool.not_eq_eq_eq_not, Bool.not_true, Bool.not_false, Bool.false_eq_true, Bool.true_eq_false, ne_eq, Decidable.not_not, not_false_eq_true, not_true_eq_false] at c10
    refine seq ?_
    refine region ?_
    refine sv (yAsg rfl) ?_
    refine nil ?_
    show Code.wp _ _ _ _ _
    refine wp_ret (thenR ?_)
    exact retV (res1 rfl (eqB (by rw [decide_eq_false (fun h => by rw [h] at c10; exact c10 rfl)]))) hS.ext
  ·
    simp only [Bool.and_eq_true, Bool.or_eq_true, Bool.and_eq_false_iff, Bool.or_eq_false_iff, decide_eq_true_eq, decide_eq_false_iff_not, Bool.not_eq_true, Bool.not_eq_false, Bool.not_not, Bool.not_eq_eq_eq_not, Bool.not_true, Bool.not_false, Bool.false_eq_true, Bool.true_eq_false, ne_eq, Decidable.not_not, not_false_eq_true, not_true_eq_false] at c10
    refine skip ?_
    show Code.wp _ _ _ _ _
    refine seq ?_
    refine seq ?_
    refine region ?_
    refine sv (yAsg rfl) ?_
    refine nil ?_
    show Code.wp _ _ _ _ _
    refine block ?_
    refine loop (fun f w zz => ∃ (k : Nat), f 0 = .slice aa la.length ca ∧ f 1 = .slice ab lb.length cb ∧ f 5 = .int .i64 (k : Int) ∧ StX [] w0 w [] ∧ (k ≤ la.length) ∧ (∀ i, i < k → la[i]? = lb[i]?) ∧ zz = la.length - k) _ ⟨_, rfl, 0, rfl, rfl, rfl, hS, (Nat.zero_le _), (fun i hi => absurd hi (Nat.not_lt_zero i)), rfl⟩ ?_
    clear hS
    rintro f w _ ⟨k, h0, h1, h5, hS, hk, hI, rfl⟩
    refine seq ?_
    refine seq ?_
    refine region ?_
    refine sv (yMove h5) ?_
    refine sv (yMove h0) ?_
    refine sv (yLen rfl Tryz.underlying34) ?_
    refine sv (yLss rfl rfl) ?_
    refine nil ?_
    show Code.wp _ _ _ _ _
    refine cond rfl (fun c14 => ?_) (fun c14 => ?_)
    ·
      simp only [Bool.and_eq_true, Bool.or_eq_true, Bool.and_eq_false_iff, Bool.or_eq_false_iff, decide_eq_true_eq, decide_eq_false_iff_not, Bool.not_eq_true, Bool.not_eq_false, Bool.not_not, Bool.not_eq_eq_eq_not, Bool.not_true, Bool.not_false, Bool.false_eq_true, Bool.true_eq_false, ne_eq, Decidable.not_not, not_false_eq_true, not_true_eq_false] at c14
      obtain ⟨x, hx, hd⟩ := drop_of (l := la) (k := k) (by omega)
      obtain ⟨b, o, cs, ha, hlen, hcs, hR⟩ := hela (k) (by omega)
      obtain rfl : x = la[k] := (List.getElem?_eq_some_iff.1 hx).2.symm
      generalize la[k] = x at hx hd hR
      obtain ⟨rfl, _⟩ := hR
      obtain ⟨y, hxq, hdq⟩ := drop_of (l := lb) (k := k) (by omega)
      obtain ⟨bq, oq, csq, haq, hlenq, hcsq, hRq⟩ := helb (k) (by omega)
      obtain rfl : y = lb[k] := (List.getElem?_eq_some_iff.1 hxq).2.symm
      generalize lb[k] = y at hxq hdq hRq
      obtain ⟨rfl, _⟩ := hRq
      refine skip ?_
      show Code.wp _ _ _ _ _
      refine seq ?_
      refine block ?_
      refine seq ?_
      refine region_draw mixed (by kernel_rfl) hS ?_
      refine qv (fun w hS => (yMove h0)) ?_
      refine qv (fun w hS => (yMove h5)) ?_
      refine qv (fun w hS => (yIxa rfl ha rfl Tryz.runUnderlying34 Tryz.sizeOf3 (by omega) (by omega))) ?_
      refine qv (fun w hS => (yLd rfl Tryz.isAgg3 ((hcs.ext hS.ext).one))) ?_
      refine qv (fun w hS => (yMove h1)) ?_
      refine qv (fun w hS => (yMove h5)) ?_
      refine qv (fun w hS => (yIxa rfl haq rfl Tryz.runUnderlying34 Tryz.sizeOf3 (by omega) (by omega))) ?_
      refine qv (fun w hS => (yLd rfl Tryz.isAgg3 ((hcsq.ext hS.ext).one))) ?_
      refine qv (fun w hS => (yNeq rfl rfl)) ?_
      clear hS; refine qnil (fun w hS => ?_)
      show Code.wp _ _ _ _ _
      refine cond rfl (fun c25 => ?_) (fun c25 => ?_)
      ·
        simp only [Bool.and_eq_true, Bool.or_eq_true, Bool.and_eq_false_iff, Bool.or_eq_false_iff, decide_eq_true_eq, decide_eq_false_iff_not, Bool.not_eq_true, Bool.not_eq_false, Bool.not_not, Bool.not_eq_eq_eq_not, Bool.not_true, Bool.not_false, Bool.false_eq_true, Bool.true_eq_false, ne_eq, Decidable.not_not, not_false_eq_true, not_true_eq_false] at c25
        have hne : x ≠ y := fun h => by subst h; simp at c25
        refine seq ?_
        refine region ?_
        refine sv (yAsg rfl) ?_
        refine nil ?_
        show Code.wp _ _ _ _ _
        refine wp_ret (blockR (thenR (thenR (blockR (thenR ?_)))))
        exact retV (res1 rfl (eqB (by rw [decide_eq_false (ne_of_get hx hxq hne)]))) hS.ext
      ·
        simp only [Bool.and_eq_true, Bool.or_eq_true, Bool.and_eq_false_iff, Bool.or_eq_false_iff, decide_eq_true_eq, decide_eq_false_iff_not, Bool.not_eq_true, Bool.not_eq_false, Bool.not_not, Bool.not_eq_eq_eq_not, Bool.not_true, Bool.not_false, Bool.false_eq_true, Bool.true_eq_false, ne_eq, Decidable.not_not, not_false_eq_true, not_true_eq_false] at c25
        have hxy : x = y := c25
        refine skip ?_
        show Code.wp _ _ _ _ _
        refine region ?_
        refine sv (yMove h5) ?_
        refine sv (yAdd rfl rfl ⟨by omega, by omega⟩) ?_
        refine sv (yAsg rfl) ?_
        refine nil ?_
        exact ⟨_, _, rfl, ⟨k + 1, h0, h1, rfl, hS, (by omega), (snoc hI (by rw [hx, hxq, hxy])), rfl⟩, by omega⟩
    ·
      simp only [Bool.and_eq_true, Bool.or_eq_true, Bool.and_eq_false_iff, Bool.or_eq_false_iff, decide_eq_true_eq, decide_eq_false_iff_not, Bool.not_eq_true, Bool.not_eq_false, Bool.not_not, Bool.not_eq_eq_eq_not, Bool.not_true, Bool.not_false, Bool.false_eq_true, Bool.true_eq_false, ne_eq, Decidable.not_not, not_false_eq_true, not_true_eq_false] at c14
      refine exit ?_
      show Code.wp _ _ _ _ _
      refine seq ?_
      refine region ?_
      refine sv (yAsg rfl) ?_
      refine nil ?_
      show Code.wp _ _ _ _ _
      refine wp_ret ?_
      exact retV (res1 rfl (eqB (by rw [decide_eq_true (eq_of_get (by omega) (fun i hi => hI i (by omega)))]))) hS.ext
/-- barrage/barrageref11.Lists -/
theorem c_Lists {la lb : List (List Int)} {va vb : Value} {w0 : World} (ha : Sl w0 1 RRow va la) (hb : Sl w0 1 RRow vb lb) : CV Tryz.prog 30 #[va, vb] w0 (.bool (decide (la = lb))) := by
  obtain ⟨aa, ca, rfl, hca, hma, hela⟩ := ha
  obtain ⟨ab, cb, rfl, hcb, hmb, helb⟩ := hb
  refine enter Tryz.func30 rfl Tryz.ntmps30 rfl ?_
  have hS := St.start w0
  refine seq ?_
  refine region ?_
  refine sv (yAsg rfl) ?_
  refine nil ?_
  show Code.wp _ _ _ _ _
  refine seq ?_
  refine seq ?_
  refine region ?_
  refine sv (yMove rfl) ?_
  refine sv (yLen rfl Tryz.underlying24) ?_
  refine sv (yMove rfl) ?_
  refine sv (yLen rfl Tryz.underlying24) ?_
  refine sv (yNeq rfl rfl) ?_
  refine nil ?_
  show Code.wp _ _ _ _ _
  refine cond rfl (fun c10 => ?_) (fun c10 => ?_)
  ·
    simp only [Bool.and_eq_true, Bool.or_eq_true, Bool.and_eq_false_iff, Bool.or_eq_false_iff, decide_eq_true_eq, decide_eq_false_iff_not, Bool.not_eq_true, Bool.not_eq_false, Bool.not_not, Bool.not_eq_eq_eq_not, Bool.not_true, Bool.not_false, Bool.false_eq_true, Bool.true_eq_false, ne_eq, Decidable.not_not, not_false_eq_true, not_true_eq_false] at c10
    refine seq ?_
    refine region ?_
    refine sv (yAsg rfl) ?_
    refine nil ?_
    show Code.wp _ _ _ _ _
    refine wp_ret (thenR ?_)
    exact retV (res1 rfl (eqB (by rw [decide_eq_false (fun h => by rw [h] at c10; exact c10 rfl)]))) hS.ext
  ·
    simp only [Bool.and_eq_true, Bool.or_eq_true, Bool.and_eq_false_iff, Bool.or_eq_false_iff, decide_eq_true_eq, decide_eq_false_iff_not, Bool.not_eq_true, Bool.not_eq_false, Bool.not_not, Bool.not_eq_eq_eq_not, Bool.not_true, Bool.not_false, Bool.false_eq_true, Bool.true_eq_false, ne_eq, Decidable.not_not, not_false_eq_true, not_true_eq_false] at c10
    refine skip ?_
    show Code.wp _ _ _ _ _
    refine seq ?_
    refine seq ?_
    refine region ?_
    refine sv (yAsg rfl) ?_
    refine nil ?_
    show Code.wp _ _ _ _ _
    refine block ?_
    refine loop (fun f w zz => ∃ (k : Nat), f 0 = .slice aa la.length ca ∧ f 1 = .slice ab lb.length cb ∧ f 5 = .int .i64 (k : Int) ∧ StX [] w0 w [] ∧ (k ≤ la.length) ∧ (∀ i, i < k → la[i]? = lb[i]?) ∧ zz = la.length - k) _ ⟨_, rfl, 0, rfl, rfl, rfl, hS, (Nat.zero_le _), (fun i hi => absurd hi (Nat.not_lt_zero i)), rfl⟩ ?_
    clear hS
    rintro f w _ ⟨k, h0, h1, h5, hS, hk, hI, rfl⟩
    refine seq ?_
    refine seq ?_
    refine region ?_
    refine sv (yMove h5) ?_
    refine sv (yMove h0) ?_
    refine sv (yLen rfl Tryz.underlying24) ?_
    refine sv (yLss rfl rfl) ?_
    refine nil ?_
    show Code.wp _ _ _ _ _
    refine cond rfl (fun c14 => ?_) (fun c14 => ?_)
    ·
      simp only [Bool.and_eq_true, Bool.or_eq_true, Bool.and_eq_false_iff, Bool.or_eq_false_iff, decide_eq_true_eq, decide_eq_false_iff_not, Bool.not_eq_true, Bool.not_eq_false, Bool.not_not, Bool.not_eq_eq_eq_not, Bool.not_true, Bool.not_false, Bool.false_eq_true, Bool.true_eq_false, ne_eq, Decidable.not_not, not_false_eq_true, not_true_eq_false] at c14
      obtain ⟨x, hx, hd⟩ := drop_of (l := la) (k := k) (by omega)
      obtain ⟨b, o, cs, ha, hlen, hcs, hR⟩ := hela (k) (by omega)
      obtain rfl : x = la[k] := (List.getElem?_eq_some_iff.1 hx).2.symm
      generalize la[k] = x at hx hd hR
      obtain ⟨xv, rfl, hxsl⟩ := hR
      obtain ⟨y, hxq, hdq⟩ := drop_of (l := lb) (k := k) (by omega)
      obtain ⟨bq, oq, csq, haq, hlenq, hcsq, hRq⟩ := helb (k) (by omega)
      obtain rfl : y = lb[k] := (List.getElem?_eq_some_iff.1 hxq).2.symm
      generalize lb[k] = y at hxq hdq hRq
      obtain ⟨yv, rfl, hysl⟩ := hRq
      refine skip ?_
      show Code.wp _ _ _ _ _
      refine seq ?_
      refine block ?_
      refine seq ?_
      refine region_draw mixed (by kernel_rfl) hS ?_
      refine qv (fun w hS => (yMove h0)) ?_
      refine qv (fun w hS => (yMove h5)) ?_
      refine qv (fun w hS => (yIxa rfl ha rfl Tryz.runUnderlying24 Tryz.sizeOf34 (by omega) (by omega))) ?_
      refine qv (fun w hS => (yLd rfl Tryz.isAgg34 ((hcs.ext hS.ext).one))) ?_
      refine qv (fun w hS => (yMove h1)) ?_
      refine qv (fun w hS => (yMove h5)) ?_
      refine qv (fun w hS => (yIxa rfl haq rfl Tryz.runUnderlying24 Tryz.sizeOf34 (by omega) (by omega))) ?_
      refine qv (fun w hS => (yLd rfl Tryz.isAgg34 ((hcsq.ext hS.ext).one))) ?_
      refine qcall Tryz.call41 (.cons rfl (.cons rfl .nil)) (fun w hS => (c_Ints (hxsl.ext RInt.stays hS.ext) (hysl.ext RInt.stays hS.ext))) ?_
      refine qv (fun w hS => (yNot rfl)) ?_
      clear hS; refine qnil (fun w hS => ?_)
      show Code.wp _ _ _ _ _
      refine cond rfl (fun c26 => ?_) (fun c26 => ?_)
      ·
        simp only [Bool.and_eq_true, Bool.or_eq_true, Bool.and_eq_false_iff, Bool.or_eq_false_iff, decide_eq_true_eq, decide_eq_false_iff_not, Bool.not_eq_true, Bool.not_eq_false, Bool.not_not, Bool.not_eq_eq_eq_not, Bool.not_true, Bool.not_false, Bool.false_eq_true, Bool.true_eq_false, ne_eq, Decidable.not_not, not_false_eq_true, not_true_eq_false] at c26
        have hne : x ≠ y := c26
        refine seq ?_
        refine region ?_
        refine sv (yAsg rfl) ?_
        refine nil ?_
        show Code.wp _ _ _ _ _
        refine wp_ret (blockR (thenR (thenR (blockR (thenR ?_)))))
        exact retV (res1 rfl (eqB (by rw [decide_eq_false (ne_of_get hx hxq hne)]))) hS.ext
      ·
        simp only [Bool.and_eq_true, Bool.or_eq_true, Bool.and_eq_false_iff, Bool.or_eq_false_iff, decide_eq_true_eq, decide_eq_false_iff_not, Bool.not_eq_true, Bool.not_eq_false, Bool.not_not, Bool.not_eq_eq_eq_not, Bool.not_true, Bool.not_false, Bool.false_eq_true, Bool.true_eq_false, ne_eq, Decidable.not_not, not_false_eq_true, not_true_eq_false] at c26
        have hxy : x = y := c26
        refine skip ?_
        show Code.wp _ _ _ _ _
        refine region ?_
        refine sv (yMove h5) ?_
        refine sv (yAdd rfl rfl ⟨by omega, by omega⟩) ?_
        refine sv (yAsg rfl) ?_
        refine nil ?_
        exact ⟨_, _, rfl, ⟨k + 1, h0, h1, rfl, hS, (by omega), (snoc hI (by rw [hx, hxq, hxy])), rfl⟩, by omega⟩
    ·
      simp only [Bool.and_eq_true, Bool.or_eq_true, Bool.and_eq_false_iff, Bool.or_eq_false_iff, decide_eq_true_eq, decide_eq_false_iff_not, Bool.not_eq_true, Bool.not_eq_false, Bool.not_not, Bool.not_eq_eq_eq_not, Bool.not_true, Bool.not_false, Bool.false_eq_true, Bool.true_eq_false, ne_eq, Decidable.not_not, not_false_eq_true, not_true_eq_false] at c14
      refine exit ?_
      show Code.wp _ _ _ _ _
      refine seq ?_
      refine region ?_
      refine sv (yAsg rfl) ?_
      refine nil ?_
      show Code.wp _ _ _ _ _
      refine wp_ret ?_
      exact retV (res1 rfl (eqB (by rw [decide_eq_true (eq_of_get (by omega) (fun i hi => hI i (by omega)))]))) hS.ext
set_option maxHeartbeats 4000000 in
/-- barrage/alarm.Zones -/
theorem c_Zones {t : Task} {hv nv fv : Value} {now wd : Int} {w0 : World} (hg : Glb w0) (h : RTask w0 [.int .i64 t.polders, hv, nv, fv] t) : CE Tryz.prog 28 #[.agg [.int .i64 t.polders, hv, nv, fv].toArray, .int .i64 now, .int .i64 wd] w0 (fun u w' => ∃ lv, u = .tuple #[lv, .int .i64 (zonesR t now wd).2] ∧ Sl w' 1 RRow lv (zonesR t now wd).1 ∧ Ext w0 w') := by
  obtain ⟨hv', nv', fv', he0, hpol, hsh, hsn, hsf⟩ := id h
  obtain ⟨rfl, rfl, rfl⟩ : hv' = hv ∧ nv' = nv ∧ fv' = fv := by simpa [eq_comm] using he0
  obtain ⟨a1, cap1, rfl, hcap1, hmx1, hel1⟩ := id hsh
  obtain ⟨a2, cap2, rfl, hcap2, hmx2, hel2⟩ := id hsn
  obtain ⟨a3, cap3, rfl, hcap3, hmx3, hel3⟩ := id hsf
  refine enter Tryz.func28 rfl Tryz.ntmps28 rfl ?_
  have hS := St.start w0
  refine seq ?_
  refine region ?_
  refine sbox hS rfl rfl ?_; clear hS; intro b3 w hS
  refine sv (yAsg rfl) ?_
  refine sv (yAsg rfl) ?_
  refine nil ?_
  show Code.wp _ _ _ _ _
  refine seq ?_
  refine region ?_
  refine sv (yLdBA rfl Tryz.isAgg26 Tryz.sizeOf26 (hS.at _) rfl rfl) ?_
  refine sv (yMove rfl) ?_
  refine scall Tryz.call47 (.cons rfl (.cons rfl .nil)) (c_at (hg.ext hS.ext) (h.ext hS.ext)) ?_
  rintro _ w (⟨he, rfl, hE⟩ | ⟨he, bb, b1, bz, rfl, hM⟩)
  ·
    replace hS := hS.step hE; clear hE
    refine sv (yMove rfl) ?_
    refine sv (yExt rfl rfl) ?_
    refine sv (yExt rfl rfl) ?_
    refine sv (yAsg rfl) ?_
    refine sv (yAsg rfl) ?_
    refine nil ?_
    show Code.wp _ _ _ _ _
    refine seq ?_
    refine block ?_
    refine seq ?_
    refine region ?_
    refine sv (yMove rfl) ?_
    refine sv (yNeq rfl rfl) ?_
    refine sv (yAsg rfl) ?_
    refine nil ?_
    show Code.wp _ _ _ _ _
    refine cond rfl (fun c18 => ?_) (fun c18 => ?_)
    ·
      simp only [Bool.and_eq_true, Bool.or_eq_true, Bool.and_eq_false_iff, Bool.or_eq_false_iff, decide_eq_true_eq, decide_eq_false_iff_not, Bool.not_eq_true, Bool.not_eq_false, Bool.not_not, Bool.not_eq_eq_eq_not, Bool.not_true, Bool.not_false, Bool.false_eq_true, Bool.true_eq_false, ne_eq, Decidable.not_not, not_false_eq_true, not_true_eq_false] at c18
      refine seq ?_
      refine region ?_
      refine sv (yMove rfl) ?_
      refine sv (yAsg rfl) ?_
      refine sv (yAsg rfl) ?_
      refine nil ?_
      show Code.wp _ _ _ _ _
      refine wp_ret (blockR (thenR ?_))
      refine retQ (res2 rfl rfl rfl) ?_
      rw [zones_err (zE0_at he) he]
      exact ⟨_, rfl, Sl.nil, hS.ext⟩
    ·
      simp only [Bool.and_eq_true, Bool.or_eq_true, Bool.and_eq_false_iff, Bool.or_eq_false_iff, decide_eq_true_eq, decide_eq_false_iff_not, Bool.not_eq_true, Bool.not_eq_false, Bool.not_not, Bool.not_eq_eq_eq_not, Bool.not_true, Bool.not_false, Bool.false_eq_true, Bool.true_eq_false, ne_eq, Decidable.not_not, not_false_eq_true, not_true_eq_false] at c18
      exact absurd c18 he
  ·
    replace hS := hS.call hM; clear hM
    obtain ⟨hok, hn⟩ := atE_ok he
    replace hS : StX [] w0 w [blk bb [.int .i64 t.polders, .slice a1 t.chans.length cap1, .slice a2 t.towns.length cap2, .slice a3 t.floods.length cap3, .slice (some ⟨b1, 0, none⟩) t.towns.length t.towns.length, .slice (some ⟨bz, 0, none⟩) t.towns.length t.towns.length] 141, blk b1 ((arrS t).flatMap spanC) 44, blk bz ((arrN t).flatMap Bx.encI) 3, blk b3 [.int .i64 t.polders, .slice a1 t.chans.length cap1, .slice a2 t.towns.length cap2, .slice a3 t.floods.length cap3] 26] := hS
    have hB : RBoard w bb t := board_mk (hS.at bb) (h.ext hS.ext) hok (hS.at b1) (hS.at bz)
    have hE0 := hS.ext
    obtain ⟨w0, hwq⟩ : ∃ wq, wq = w := ⟨w, rfl⟩
    rw [← hwq] at hE0 hB
    replace hS : StX [] w0 w [] := by rw [hwq]; exact St.start w
    clear hwq
    have hwl := wetL_len t
    have hn8 := hok.ntw
    refine sv (yMove rfl) ?_
    refine sv (yExt rfl rfl) ?_
    refine sv (yExt rfl rfl) ?_
    refine sv (yAsg rfl) ?_
    refine sv (yAsg rfl) ?_
    refine nil ?_
    show Code.wp _ _ _ _ _
    refine seq ?_
    refine block ?_
    refine seq ?_
    refine region ?_
    refine sv (yMove rfl) ?_
    refine sv (yNeq rfl rfl) ?_
    refine sv (yAsg rfl) ?_
    refine nil ?_
    show Code.wp _ _ _ _ _
    refine cond rfl (fun c18 => ?_) (fun c18 => ?_)
    ·
      exact absurd c18 (by decide)
    ·
      refine seq ?_
      refine region ?_
      refine sv (yMove rfl) ?_
      refine scall Tryz.call52 (.cons rfl (.cons rfl (.cons rfl .nil))) c_out ?_
      rintro _ w ⟨rfl, hE⟩; replace hS := hS.step hE; clear hE
      refine sv (yAsg rfl) ?_
      refine nil ?_
      show Code.wp _ _ _ _ _
      refine cond rfl (fun c22 => ?_) (fun c22 => ?_)
      ·
        refine seq ?_
        refine region ?_
        refine sv (yAsg rfl) ?_
        refine sv (yAsg rfl) ?_
        refine nil ?_
        show Code.wp _ _ _ _ _
        refine wp_ret (blockR (thenR ?_))
        refine retQ (res2 rfl rfl rfl) ?_
        rw [zones_err (zE0_wd he c22) (by decide)]
        exact ⟨_, rfl, Sl.nil, hE0.trans hS.ext⟩
      ·
        have hz0 := zE0_0 he c22
        obtain ⟨-, -, hwd⟩ := zE0_ok hz0
        refine skip ?_
        show Code.wp _ _ _ _ _
        refine seq ?_
        refine seq ?_
        refine region ?_
        refine sv (yMove rfl) ?_
        refine scall Tryz.call48 (.cons rfl .nil) (c_wet (hB.ext hS.ext)) ?_
        rintro tv w hM; replace hS := hS.call1 hM; clear hM
        obtain ⟨aw, cw, rfl⟩ := row_shape (hS.row tv)
        refine sv (yMove rfl) ?_
        refine sv (yFnB (.cons rfl .nil)) ?_
        refine scall Tryz.call75 (.cons rfl (.cons rfl .nil)) (c_sorted (fk := fun i => (arr t i).1.lo) (hS.row (.slice aw (wetL t).length cw)) Tryz.call76 (fun x w hx e => c_first (hB.ext (e.oldR hS)) (wet_mem hx)) (by omega)) ?_
        rintro _ w ⟨rfl, hM⟩
        replace hS := hS.app (v := .slice aw (wetL t).length cw) (v' := .slice aw (wetL t).length cw) (hM.row _) hM.grown (.inl rfl)
        clear hM
        replace hS : StX [] w0 w (rowI (.slice aw (wetL t).length cw) 3 1 (wetL t).length ((ordZ t).flatMap Bx.encI) :: []) := hS
        have hol := ordZ_len t
        refine sv (yLen rfl Tryz.underlying34) ?_
        refine sv (yMove rfl) ?_
        refine nil ?_
        show Code.wp _ _ _ _ _
        refine block ?_
        refine loop (fun f w zz => ∃ (k : Nat) (lv : Value) (vs : List Value), f 1 = .int .i64 now ∧ f 2 = .int .i64 wd ∧ f 6 = lv ∧ f 8 = .pointer (some ⟨bb, 0, none⟩) ∧ f 29 = .slice aw (wetL t).length cw ∧ f 30 = .int .i64 ((wetL t).length : Int) ∧ f 31 = .int .i64 (k : Int) ∧ StX [] w0 w [packI (inI vs (zFold (zoneZ t now wd) ((ordZ t).take k))), rowI (lv) 34 1 (zFold (zoneZ t now wd) ((ordZ t).take k)).length vs, rowI (.slice aw (wetL t).length cw) 3 1 (wetL t).length ((ordZ t).flatMap Bx.encI)] ∧ (k ≤ (wetL t).length) ∧ (vs.length = (zFold (zoneZ t now wd) ((ordZ t).take k)).length) ∧ (∀ i ∈ (ordZ t).take k, zoneZ t now wd i < 50) ∧ zz = (wetL t).length - k) _ ⟨_, rfl, 0, _, [], rfl, rfl, rfl, rfl, rfl, rfl, rfl, (StX.pack (M := []) (hS.nilrow 34 1)), (Nat.zero_le _), (rfl), (fun i hi => by simp at hi), rfl⟩ ?_
        clear hS
        rintro f w _ ⟨k, lv, vs, h1, h2, h6, h8, h29, h30, h31, hS, hk, hvl, h50, rfl⟩
        refine seq ?_
        refine region ?_
        refine sv (yLss h31 h30) ?_
        refine nil ?_
        show Code.wp _ _ _ _ _
        refine seq ?_
        refine cond rfl (fun c32 => ?_) (fun c32 => ?_)
        ·
          simp only [Bool.and_eq_true, Bool.or_eq_true, Bool.and_eq_false_iff, Bool.or_eq_false_iff, decide_eq_true_eq, decide_eq_false_iff_not, Bool.not_eq_true, Bool.not_eq_false, Bool.not_not, Bool.not_eq_eq_eq_not, Bool.not_true, Bool.not_false, Bool.false_eq_true, Bool.true_eq_false, ne_eq, Decidable.not_not, not_false_eq_true, not_true_eq_false] at c32
          obtain ⟨i, hxi, -⟩ := drop_of (l := ordZ t) (k := k) (by omega)
          have him := List.mem_of_getElem? hxi
          have hib := wet_mem (mem_ordZ.1 him)
          have hab := arr_bd hok hib
          obtain ⟨go, hao, -⟩ := row_get (hS.row (.slice aw (wetL t).length cw)) (by omega)
          refine skip ?_
          show Code.wp _ _ _ _ _
          refine seq ?_
          refine block ?_
          refine seq ?_
          refine region ?_
          refine sv (yIxa h29 hao h31 Tryz.runUnderlying34 Tryz.sizeOf3 (by omega) (by omega)) ?_
          refine sv (yLd rfl Tryz.isAgg3 ((flat_cells (enc := Bx.encI) encI_len (row_at (hS.row (.slice aw (wetL t).length cw)) hao (by omega)) hxi).one)) ?_
          refine sv (yAsg rfl) ?_
          refine nil ?_
          show Code.wp _ _ _ _ _
          refine seq ?_
          refine region ?_
          refine sv (yMove h8) ?_
          refine sv (yMove rfl) ?_
          refine scall Tryz.call76 (.cons rfl (.cons rfl .nil)) (c_first (hB.ext hS.ext) hib) ?_
          rintro _ w ⟨rfl, hE⟩; replace hS := hS.step hE; clear hE
          refine sv (yMove h1) ?_
          refine sv (ySub rfl rfl ⟨by omega, by omega⟩) ?_
          refine sv (yMax rfl rfl) ?_
          refine sv (yMove h2) ?_
          refine sv (yQuoP rfl rfl ⟨by omega, by omega⟩ (by omega)) ?_
          refine sv (yAsg rfl) ?_
          refine nil ?_
          show Code.wp _ _ _ _ _
          refine seq ?_
          refine seq ?_
          refine region ?_
          refine sv (yMove rfl) ?_
          refine sv (yGeq rfl rfl) ?_
          refine nil ?_
          show Code.wp _ _ _ _ _
          refine cond rfl (fun c44 => ?_) (fun c44 => ?_)
          ·
            simp only [Bool.and_eq_true, Bool.or_eq_true, Bool.and_eq_false_iff, Bool.or_eq_false_iff, decide_eq_true_eq, decide_eq_false_iff_not, Bool.not_eq_true, Bool.not_eq_false, Bool.not_not, Bool.not_eq_eq_eq_not, Bool.not_true, Bool.not_false, Bool.false_eq_true, Bool.true_eq_false, ne_eq, Decidable.not_not, not_false_eq_true, not_true_eq_false] at c44
            refine seq ?_
            refine region ?_
            refine sv (yAsg rfl) ?_
            refine sv (yAsg rfl) ?_
            refine nil ?_
            show Code.wp _ _ _ _ _
            refine wp_ret (thenR (blockR (thenR (thenR (blockR (thenR ?_))))))
            refine retQ (res2 rfl rfl rfl) ?_
            rw [zones_far hz0 him c44]
            exact ⟨_, rfl, Sl.nil, hE0.trans hS.ext⟩
          ·
            simp only [Bool.and_eq_true, Bool.or_eq_true, Bool.and_eq_false_iff, Bool.or_eq_false_iff, decide_eq_true_eq, decide_eq_false_iff_not, Bool.not_eq_true, Bool.not_eq_false, Bool.not_not, Bool.not_eq_eq_eq_not, Bool.not_true, Bool.not_false, Bool.false_eq_true, Bool.true_eq_false, ne_eq, Decidable.not_not, not_false_eq_true, not_true_eq_false] at c44
            have hzp := zoneZ_bd (t := t) (now := now) (i := i) hwd.1
            obtain ⟨z, hz⟩ : ∃ z : Nat, zoneZ t now wd i = (z : Int) := ⟨(zoneZ t now wd i).toNat, by omega⟩
            have hzl5 : zoneZ t now wd i < 50 := by have : ¬ 50 ≤ zoneZ t now wd i := c44; omega
            refine skip ?_
            show Code.wp _ _ _ _ _
            refine seq ?_
            refine block ?_
            refine loop (fun f w zz => ∃ (m : Nat) (lv : Value) (vs : List Value), f 1 = .int .i64 now ∧ f 2 = .int .i64 wd ∧ f 6 = lv ∧ f 8 = .pointer (some ⟨bb, 0, none⟩) ∧ f 29 = .slice aw (wetL t).length cw ∧ f 30 = .int .i64 ((wetL t).length : Int) ∧ f 31 = .int .i64 (k : Int) ∧ f 10 = .int .i64 i ∧ f 11 = .int .i64 (zoneZ t now wd i) ∧ StX [] w0 w [packI (inI vs (padZ (zFold (zoneZ t now wd) ((ordZ t).take k)) m)), rowI (lv) 34 1 (padZ (zFold (zoneZ t now wd) ((ordZ t).take k)) m).length vs, rowI (.slice aw (wetL t).length cw) 3 1 (wetL t).length ((ordZ t).flatMap Bx.encI)] ∧ (vs.length = (padZ (zFold (zoneZ t now wd) ((ordZ t).take k)) m).length) ∧ (m ≤ z + 1 - (zFold (zoneZ t now wd) ((ordZ t).take k)).length) ∧ zz = z + 1 - (zFold (zoneZ t now wd) ((ordZ t).take k)).length - m) _ ⟨_, rfl, 0, _, vs, h1, h2, h6, h8, h29, h30, h31, rfl, rfl, (by rw [padZ_0]; exact hS), (by rw [padZ_0]; exact hvl), (Nat.zero_le _), rfl⟩ ?_
            clear hS
            rintro f w _ ⟨m, lv, vs, h1, h2, h6, h8, h29, h30, h31, h10, h11, hS, hvl, hm, rfl⟩
            obtain ⟨a6, c6, rfl⟩ := row_shape (hS.row lv)
            have hpl := padZ_len (zFold (zoneZ t now wd) ((ordZ t).take k)) m
            refine seq ?_
            refine seq ?_
            refine region ?_
            refine sv (yMove h6) ?_
            refine sv (yLen rfl Tryz.underlying24) ?_
            refine sv (yMove h11) ?_
            refine sv (yLeq rfl rfl) ?_
            refine nil ?_
            show Code.wp _ _ _ _ _
            refine cond rfl (fun c48 => ?_) (fun c48 => ?_)
            ·
              simp only [Bool.and_eq_true, Bool.or_eq_true, Bool.and_eq_false_iff, Bool.or_eq_false_iff, decide_eq_true_eq, decide_eq_false_iff_not, Bool.not_eq_true, Bool.not_eq_false, Bool.not_not, Bool.not_eq_eq_eq_not, Bool.not_true, Bool.not_false, Bool.false_eq_true, Bool.true_eq_false, ne_eq, Decidable.not_not, not_false_eq_true, not_true_eq_false] at c48
              refine skip ?_
              show Code.wp _ _ _ _ _
              refine block ?_
              refine region ?_
              refine sv (yMove h6) ?_
              refine sbslice hS Tryz.underlying24 Tryz.sizeOf34 rfl Tryz.zeroValue34 rfl (.cons rfl rfl .nil) rfl ?_; clear hS; intro b50 w hS
              refine sapp (bytes := 24) (size := 1) (v := (.slice a6 (padZ (zFold (zoneZ t now wd) ((ordZ t).take k)) m).length c6)) (m := 1) hS rfl rfl Tryz.underlying24 ti34 rfl rfl rfl rfl (by decide) (blk_cells (hS.at _)) rfl rfl (by omega) (by omega) ?_; clear hS; intro v51 w hS
              refine sv (yAsg rfl) ?_
              refine nil ?_
              exact ⟨_, _, rfl, ⟨m + 1, _, vs ++ [.slice none 0 0], h1, h2, rfl, h8, h29, h30, h31, h10, h11, (by rw [padZ_succ, inI_snoc hvl, List.length_append]; exact ((hS.sub (.cons _ (List.Sublist.refl _))).nilrow 3 1).packs), (by rw [padZ_succ, List.length_append, List.length_append, hvl]; rfl), (by omega), rfl⟩, by omega⟩
            ·
              simp only [Bool.and_eq_true, Bool.or_eq_true, Bool.and_eq_false_iff, Bool.or_eq_false_iff, decide_eq_true_eq, decide_eq_false_iff_not, Bool.not_eq_true, Bool.not_eq_false, Bool.not_not, Bool.not_eq_eq_eq_not, Bool.not_true, Bool.not_false, Bool.false_eq_true, Bool.true_eq_false, ne_eq, Decidable.not_not, not_false_eq_true, not_true_eq_false] at c48
              obtain rfl : m = z + 1 - (zFold (zoneZ t now wd) ((ordZ t).take k)).length := by rw [padZ_len] at c48; omega
              have hzl : z < (padZ (zFold (zoneZ t now wd) ((ordZ t).take k)) (z + 1 - (zFold (zoneZ t now wd) ((ordZ t).take k)).length)).length := by rw [padZ_len]; omega
              obtain ⟨g6, rfl, -⟩ := row_get (hS.row (.slice a6 (padZ (zFold (zoneZ t now wd) ((ordZ t).take k)) (z + 1 - (zFold (zoneZ t now wd) ((ordZ t).take k)).length)).length c6)) (by omega)
              obtain ⟨v0, hv0⟩ : ∃ v0, vs[z]? = some v0 := ⟨_, List.getElem?_eq_getElem (by omega)⟩
              obtain ⟨z0, hz0⟩ : ∃ z0, (padZ (zFold (zoneZ t now wd) ((ordZ t).take k)) (z + 1 - (zFold (zoneZ t now wd) ((ordZ t).take k)).length))[z]? = some z0 := ⟨_, List.getElem?_eq_getElem hzl⟩
              have hnx := zone_set hxi hz hz0
              have hin := inI_get hv0 hz0
              have hrv : w.ownsRow 0 3 1 v0 z0.length (z0.flatMap Bx.encI) := hS.inpack (by simp) hin
              obtain ⟨a0, c0, rfl⟩ := row_shape hrv
              have hzz : z0.length ≤ k := by have := zFold_row hxi hz hz0; exact this
              rw [inI_split hv0 hz0] at hS
              replace hS := hS.takeI
              replace hS : StX [] w0 w (rowI (.slice a0 z0.length c0) 3 1 z0.length (z0.flatMap Bx.encI) :: packI _ :: rowI (.slice (some ⟨g6, 0, none⟩) (padZ (zFold (zoneZ t now wd) ((ordZ t).take k)) (z + 1 - (zFold (zoneZ t now wd) ((ordZ t).take k)).length)).length c6) 34 1 (padZ (zFold (zoneZ t now wd) ((ordZ t).take k)) (z + 1 - (zFold (zoneZ t now wd) ((ordZ t).take k)).length)).length vs :: rowI (.slice aw (wetL t).length cw) 3 1 (wetL t).length ((ordZ t).flatMap Bx.encI) :: []) := hS
              refine exit ?_
              show Code.wp _ _ _ _ _
              refine region ?_
              refine sv (yMove h6) ?_
              refine sv (yMove h11) ?_
              refine sv (yMove h6) ?_
              refine sv (yMove h11) ?_
              refine sv (yIx0 (m := z) rfl (rfl.trans (congrArg (Value.int .i64) hz)) Tryz.runUnderlying24 Tryz.sizeOf34 (by omega)) ?_
              refine sv (yLd rfl Tryz.isAgg34 (out_cell (row_at (hS.row (.slice (some ⟨g6, 0, none⟩) (padZ (zFold (zoneZ t now wd) ((ordZ t).take k)) (z + 1 - (zFold (zoneZ t now wd) ((ordZ t).take k)).length)).length c6)) rfl (by omega)) hv0)) ?_
              refine sv (yMove h10) ?_
              refine sbslice hS Tryz.underlying34 Tryz.sizeOf3 rfl Tryz.zeroValue3 rfl (.cons rfl rfl .nil) rfl ?_; clear hS; intro b59 w hS
              refine sapp (bytes := 8) (size := 1) (v := (.slice a0 z0.length c0)) (m := 1) hS rfl rfl Tryz.underlying34 ti3 rfl rfl rfl rfl (by decide) (blk_cells (hS.at _)) rfl rfl (by omega) (by omega) ?_; clear hS; intro v60 w hS
              refine sv (yIx0 (m := z) rfl (rfl.trans (congrArg (Value.int .i64) hz)) Tryz.runUnderlying24 Tryz.sizeOf34 (by omega)) ?_
              obtain ⟨a60, c60, rfl⟩ := row_shape (hS.row v60)
              refine srst (g := g6) (m := (padZ (zFold (zoneZ t now wd) ((ordZ t).take k)) (z + 1 - (zFold (zoneZ t now wd) ((ordZ t).take k)).length)).length) (cap := c6) (sz := 1) (vs := [.slice a60 (z0.length + 1) c60]) hS rfl rfl Tryz.sizeOf34 rfl rfl (by omega) rfl ?_; clear hS; intro w hS
              rw [splice_one (by omega)] at hS
              refine nil ?_
              show Code.wp _ _ _ _ _
              refine region ?_
              refine sv (yAdd h31 rfl ⟨by omega, by omega⟩) ?_
              refine sv (yMove rfl) ?_
              refine nil ?_
              exact ⟨_, _, rfl, ⟨k + 1, _, vs.set z (.slice a60 (z0.length + 1) c60), h1, h2, h6, h8, h29, h30, rfl, (by rw [hnx, inI_set hv0 hz0, List.length_set]; refine StX.putI ?_; unfold inR; rw [List.flatMap_append, List.length_append]; exact hS.sub (.cons _ (List.Sublist.refl _))), (by omega), (by rw [hnx, List.length_set, List.length_set]; exact hvl), (fun q hq => by rw [take_snoc hxi] at hq; rcases List.mem_append.1 hq with hq | hq; exact h50 q hq; rw [List.mem_singleton.1 hq]; omega), rfl⟩, by omega⟩
        ·
          simp only [Bool.and_eq_true, Bool.or_eq_true, Bool.and_eq_false_iff, Bool.or_eq_false_iff, decide_eq_true_eq, decide_eq_false_iff_not, Bool.not_eq_true, Bool.not_eq_false, Bool.not_not, Bool.not_eq_eq_eq_not, Bool.not_true, Bool.not_false, Bool.false_eq_true, Bool.true_eq_false, ne_eq, Decidable.not_not, not_false_eq_true, not_true_eq_false] at c32
          obtain rfl : k = (wetL t).length := by omega
          rw [← hol, List.take_length] at hS hvl h50
          refine exit ?_
          show Code.wp _ _ _ _ _
          refine seq ?_
          refine region ?_
          refine sv (yMove h6) ?_
          refine sv (yAsg rfl) ?_
          refine sv (yAsg rfl) ?_
          refine nil ?_
          show Code.wp _ _ _ _ _
          refine wp_ret ?_
          refine retQ (res2 rfl rfl rfl) ?_
          rw [zones_in hz0 h50]
          exact ⟨_, rfl, sl_rows2 (fun w v z h => ⟨v, rfl, h⟩) hvl (hS.row lv) (fun it hit => hS.inpack (by simp) hit) (fun z hz x hx => by have := wet_mem (mem_ordZ.1 (zFold_mem (fun i _ => zoneZ_bd hwd.1) z hz x hx)); constructor <;> omega), hE0.trans hS.ext⟩
end Go.Proofs.YtmoilbakmlekbaaGreatDoor

/- part A33 -/
namespace Bx
open Go Go.RowKit
section
variable {P : Program} {ρ : Operand → Value} {w : World} {ty : TypeId}
theorem yShlI {x y : Operand} {a k : Int} {t t' : TypeId} (hx : ρ x = .int .i64 a) (hy : ρ y = .int .i64 k) (h0 : 0 ≤ k) (h8 : k < 63) (hb : I64 (a * 2 ^ k.toNat)) : Y P ρ (.binOp .shl t x y t') ty w (.int .i64 (a * 2 ^ k.toNat)) w := by
  have h1 : ¬ k < 0 := by omega
  have h2 : min k.toNat 64 = k.toNat := by omega
  have h3 := wrap_in hb
  simp only [Y, xop, execOp, hx, hy, eqGuard, binOp, Op.shift, IntKind.bits, h1, h2, if_false]
  rw [h3]; rfl
theorem yAnd1 {x y : Operand} {a : Int} {t t' : TypeId} (hx : ρ x = .int .i64 a) (hy : ρ y = .int .i64 1) (h : 0 ≤ a ∧ a ≤ 9223372036854775807) : Y P ρ (.binOp .and t x y t') ty w (.int .i64 (a % 2)) w := by
  obtain ⟨n, rfl⟩ := Int.eq_ofNat_of_zero_le h.1
  have e : (BitVec.ofInt IntKind.i64.bits (n : Int) &&& BitVec.ofInt IntKind.i64.bits 1).toNat = n % 2 := by
    rw [BitVec.toNat_and, BitVec.toNat_ofInt, BitVec.toNat_ofInt]
    have e1 : ((n : Int) % ((2 ^ IntKind.i64.bits : Nat) : Int)).toNat = n := by
      have : ((2 ^ IntKind.i64.bits : Nat) : Int) = 18446744073709551616 := rfl
      rw [this]; omega
    have e2 : ((1 : Int) % ((2 ^ IntKind.i64.bits : Nat) : Int)).toNat = 1 := rfl
    rw [e1, e2, Nat.and_one_is_mod]
  have h3 : IntKind.i64.wrap ((n % 2 : Nat) : Int) = ((n : Int) % 2) := by
    rw [wrap_in ⟨by omega, by omega⟩]; omega
  simp only [Y, xop, execOp, hx, hy, eqGuard, binOp, Op.intBits]
  rw [e, h3]; rfl
end
theorem scopeR {a : Act} {Q : Exit → Act → World → Prop} {w : World} (h : Q .ret a w) : Exit.noGoto Q .ret a w := h
theorem scope {P : Program} {c : Code} {a : Act} {Q : Exit → Act → World → Prop} {w : World} (h : c.wp P (Exit.noGoto Q) a w) : (Code.scope c).wp P Q a w := wp_scope_straight h
theorem label {P : Program} {l : Nat} {a : Act} {Q : Exit → Act → World → Prop} {w : World} (h : Q .normal a w) : (Code.label l).wp P Q a w := wp_label h
theorem subsB_snoc : ∀ (l : List Int) (b : Nat) (a : Int), subsB (l ++ [a]) b = subsB l b ++ if b / 2 ^ l.length % 2 = 1 then [a] else []
  | [], b, a => by simp [subsB]
  | x :: l, b, a => by
    rw [List.cons_append, subsB, subsB, subsB_snoc l, List.length_cons, Nat.pow_succ, Nat.div_div_eq_div_mul, Nat.mul_comm 2 (2 ^ l.length)]
    split <;> rfl
theorem subsB_step {l : List Int} {k : Nat} {a : Int} (h : l[k]? = some a) (b : Nat) : subsB (l.take (k + 1)) b = subsB (l.take k) b ++ if b / 2 ^ k % 2 = 1 then [a] else [] := by
  have hk := (List.getElem?_eq_some_iff.1 h).1
  rw [take_snoc h, subsB_snoc, List.length_take, Nat.min_eq_left (by omega)]
theorem bitSets_len (l : List Int) : (bitSets l).length = 2 ^ l.length - 1 := by simp [bitSets]
theorem bitSets_get {l : List Int} {b : Nat} (h : b < 2 ^ l.length - 1) : (bitSets l)[b]? = some (subsB l (b + 1)) := by simp [bitSets, h]
theorem subsB_len (l : List Int) (b : Nat) : (subsB l b).length ≤ l.length := (subsB_sub l b).length_le
def cmpL : List Int → List Int → Int
  | [], [] => 0
  | [], _ :: _ => -1
  | _ :: _, [] => 1
  | x :: a, y :: b => if x < y then -1 else if y < x then 1 else cmpL a b
theorem cmpL_lex : ∀ {a b : List Int}, a.length = b.length → (cmpL a b < 0 ↔ lexB a b = true)
  | [], [], _ => by simp [cmpL, lexB]
  | [], _ :: _, h => by simp at h
  | _ :: _, [], h => by simp at h
  | x :: a, y :: b, h => by
    have ih := cmpL_lex (a := a) (b := b) (by simpa using h)
    rw [cmpL, lexB]
    simp only [Bool.or_eq_true, Bool.and_eq_true, decide_eq_true_eq]
    split
    · next h1 => exact ⟨fun _ => .inl h1, fun _ => by decide⟩
    · next h1 =>
      split
      · next h2 => exact ⟨fun h => absurd h (by decide), fun h => by omega⟩
      · next h2 =>
        have e : x = y := by omega
        rw [ih]
        exact ⟨fun h => .inr ⟨e, h⟩, fun h => by rcases h with h | h; exact absurd h h1; exact h.2⟩
/-- How the two lists stand behind a place up to which they are the same. -/
theorem cmpL_drop {a b : List Int} {k : Nat} {x y : Int} (hx : a[k]? = some x) (hy : b[k]? = some y) (hI : cmpL a b = cmpL (a.drop k) (b.drop k)) : cmpL a b = if x < y then -1 else if y < x then 1 else cmpL (a.drop (k + 1)) (b.drop (k + 1)) := by
  have hk := (List.getElem?_eq_some_iff.1 hx)
  have hk2 := (List.getElem?_eq_some_iff.1 hy)
  rw [hI, List.drop_eq_getElem_cons hk.1, List.drop_eq_getElem_cons hk2.1, hk.2, hk2.2, cmpL]
theorem cmpL_long {a b : List Int} {k : Nat} (ha : k < a.length) (hb : b.length ≤ k) (hI : cmpL a b = cmpL (a.drop k) (b.drop k)) : cmpL a b = 1 := by
  rw [hI, List.drop_eq_getElem_cons ha, List.drop_of_length_le hb]; rfl
theorem cmpL_end {a b : List Int} (hI : cmpL a b = cmpL (a.drop a.length) (b.drop a.length)) : cmpL a b = if a.length < b.length then -1 else 0 := by
  rw [hI, List.drop_length]
  by_cases h : a.length < b.length
  · rw [if_pos h, List.drop_eq_getElem_cons h]; rfl
  · rw [if_neg h, List.drop_of_length_le (by omega)]; rfl
def blkP (t : Task) (now : Int) (s : List Int) : Bool := decide ((plT t now).slots (chL t) s < s.length)
def blkO (t : Task) (now : Int) : Option (List Int) := bestL (blkP t now) (bitSets (wetL t))
def blkR (t : Task) (now : Int) : List Int × Int := if atE t now ≠ 0 then ([], atE t now) else ((blkO t now).getD [], 0)
theorem best_take {p : List Int → Bool} {l : List (List Int)} {k : Nat} {s : List Int} (h : l[k]? = some s) : bestL p (l.take (k + 1)) = bestStep p (bestL p (l.take k)) s := by rw [take_snoc h, bestL_snoc]
theorem best_mem {p : List Int → Bool} {l : List (List Int)} {g : List Int} (h : bestL p l = some g) : g ∈ l ∧ p g = true := by
  have := bestL_best p l
  rw [h] at this
  exact ⟨this.1, this.2.1⟩
theorem bit_set {l : List Int} {b : Nat} (h0 : 0 < b) (hb : b < 2 ^ l.length) : subsB l b ≠ [] := fun e => by
  have := subsB_nil hb e; omega
theorem best_ne {p : List Int → Bool} {l : List Int} {k : Nat} {g : List Int} (h : bestL p ((bitSets l).take k) = some g) : g ≠ [] ∧ g.Sublist l := by
  have h1 := (best_mem h).1
  have h2 := mem_bitSets.1 (List.mem_of_mem_take h1)
  exact ⟨h2.2, h2.1⟩
theorem befB_cmp {s g : List Int} : befB s g = (decide ((s.length : Int) < g.length) || (decide ((s.length : Int) = g.length) && decide (cmpL s g < 0))) := by
  unfold befB
  rw [Bool.eq_iff_iff]
  simp only [Bool.or_eq_true, Bool.and_eq_true, decide_eq_true_eq]
  constructor
  · rintro (h | ⟨h1, h2⟩)
    · exact .inl (by omega)
    · exact .inr ⟨by omega, (cmpL_lex h1).2 h2⟩
  · rintro (h | ⟨h1, h2⟩)
    · exact .inl (by omega)
    · exact .inr ⟨by omega, (cmpL_lex (by omega)).1 h2⟩
/-- What the program asks, in its words. -/
def betB (fo : Option (List Int)) (s : List Int) : Bool := match fo with | none => true | some g => befB s g
theorem bestStep_y {p : List Int → Bool} {fo : Option (List Int)} {s : List Int} (h1 : betB fo s = true) (h2 : p s = true) : bestStep p fo s = some s := by
  unfold bestStep
  exact if_pos ⟨h1, h2⟩
theorem bestStep_n {p : List Int → Bool} {fo : Option (List Int)} {s : List Int} (h : betB fo s = false ∨ p s = false) : bestStep p fo s = fo := by
  unfold bestStep
  refine if_neg fun k => ?_
  have h1 : betB fo s = true := k.1
  have h2 := k.2
  rcases h with h | h
  · rw [h] at h1; cases h1
  · rw [h] at h2; cases h2
theorem betB_eq {fo : Option (List Int)} {s : List Int} {b : Bool} {n : Int} {c : Int} (hb : b = decide (fo = none)) (hn : n = ((fo.getD []).length : Int)) (hc : c = cmpL s (fo.getD [])) : betB fo s = ((b || decide ((s.length : Int) < n)) || (decide ((s.length : Int) = n) && decide (c < 0))) := by
  subst hb hn hc
  cases fo with
  | none => rfl
  | some g =>
    have e : decide ((some g : Option (List Int)) = none) = false := by simp
    rw [e, Bool.false_or]
    exact befB_cmp
end Bx
namespace Bx
open Go Go.RowKit
theorem any_has {l : List Int} {v : Int} : (l.any fun x => decide (v = x)) = decide (v ∈ l) := by
  rw [Bool.eq_iff_iff]; simp
theorem cmp_hit {x y r : Int} (h : cmpI x y ≠ 0) : (if x < y then -1 else if y < x then 1 else r) = cmpI x y := by
  unfold cmpI at h ⊢
  split
  · rfl
  · rename_i h1
    rw [if_neg h1] at h
    split
    · rfl
    · rename_i h2
      rw [if_neg h2] at h; exact absurd rfl h
theorem cmp_eq {x y r : Int} (h : cmpI x y = 0) : (if x < y then -1 else if y < x then 1 else r) = r := by
  unfold cmpI at h
  split
  · rename_i h1; rw [if_pos h1] at h; cases h
  · rename_i h1
    rw [if_neg h1] at h
    split
    · rename_i h2; rw [if_pos h2] at h; cases h
    · rfl
theorem pow_cast (n : Nat) : (1 : Int) * 2 ^ ((n : Nat) : Int).toNat = ((2 ^ n : Nat) : Int) := by
  rw [Int.one_mul, Int.toNat_natCast]; push_cast; rfl
theorem pow_le8 {n : Nat} (h : n ≤ 8) : 1 ≤ 2 ^ n ∧ 2 ^ n ≤ 256 := by
  refine ⟨Nat.one_le_two_pow, ?_⟩
  exact Nat.le_trans (Nat.pow_le_pow_right (by decide) h) (by decide)
theorem bit_div (b k : Nat) : ((b : Int) + 1) / 2 ^ ((k : Nat) : Int).toNat = (((b + 1) / 2 ^ k : Nat) : Int) := by
  rw [Int.toNat_natCast]; push_cast; rfl
theorem bit_mod (n : Nat) : ((n : Nat) : Int) % 2 = 1 ↔ n % 2 = 1 := by omega
theorem skip_of {t : Task} {now : Int} {fo : Option (List Int)} {s : List Int} {e : Bool} (he : betB fo s = e) (h : (!e || decide ((s.length : Int) ≤ (plT t now).slots (chL t) s)) = true) : betB fo s = false ∨ blkP t now s = false := by
  rw [← he, Bool.or_eq_true, Bool.not_eq_true', decide_eq_true_eq] at h
  rcases h with h | h
  · exact .inl h
  · refine .inr ?_
    unfold blkP
    rw [decide_eq_false_iff_not]; omega
theorem take_of {t : Task} {now : Int} {fo : Option (List Int)} {s : List Int} {e : Bool} (he : betB fo s = e) (h : (!e || decide ((s.length : Int) ≤ (plT t now).slots (chL t) s)) = false) : betB fo s = true ∧ blkP t now s = true := by
  rw [← he, Bool.or_eq_false_iff, Bool.not_eq_false', decide_eq_false_iff_not] at h
  refine ⟨h.1, ?_⟩
  unfold blkP
  rw [decide_eq_true_eq]; omega
theorem blk_done {t : Task} {now : Int} {b : Nat} {fo : Option (List Int)} (ha : atE t now = 0) (hb : 2 ^ (wetL t).length - 1 ≤ b) (h : fo = bestL (blkP t now) ((bitSets (wetL t)).take b)) : blkR t now = (fo.getD [], 0) := by
  unfold blkR blkO
  rw [if_neg (fun k => k ha), h, List.take_of_length_le (by rw [bitSets_len]; omega)]
theorem isNone_dec {a : Option Addr} {fo : Option (List Int)} (h : a = none ↔ fo = none) : a.isNone = decide (fo = none) := by
  cases a with
  | none => rw [decide_eq_true (h.1 rfl)]; rfl
  | some x => rw [decide_eq_false (fun k => by have := h.2 k; cases this)]; rfl
theorem getD_mem {fo : Option (List Int)} {l : List Int} (h : ∀ g, fo = some g → g.Sublist l) : ∀ x ∈ fo.getD [], x ∈ l := by
  cases fo with
  | none => intro x hx; cases hx
  | some g => exact fun x hx => (h g rfl).subset hx
theorem getD_len {fo : Option (List Int)} {l : List Int} (h : ∀ g, fo = some g → g.Sublist l) : (fo.getD []).length ≤ l.length := by
  cases fo with
  | none => exact Nat.zero_le _
  | some g => exact (h g rfl).length_le
end Bx
namespace Bx
theorem bit_bd {b k : Nat} (h : b + 1 ≤ 256) : 0 ≤ ((b : Int) + 1) / 2 ^ ((k : Nat) : Int).toNat ∧ ((b : Int) + 1) / 2 ^ ((k : Nat) : Int).toNat ≤ 9223372036854775807 := by
  rw [bit_div]
  exact ⟨Int.natCast_nonneg _, Int.le_trans (Int.ofNat_le.2 (Nat.le_trans (Nat.div_le_self _ _) h)) (by decide)⟩
end Bx

/- part Aw42 -/
namespace Go.Proofs.YtmoilbakmlekbaaGreatDoor
open Go Bx
/-- slices.Index   int,int  -/
theorem c_IndexI {l : List Int} {x : Int} {v : Value} {w0 : World} (hsl : Sl w0 1 RInt v l) : CV Tryz.prog 140 #[v, .int .i64 x] w0 (.int .i64 (idxF (fun y => decide (x = y)) l 0)) := by
  obtain ⟨a, cap, rfl, hcap, hmx, hel⟩ := hsl
  refine enter Tryz.func140 rfl Tryz.ntmps140 rfl ?_
  have hS := St.start w0
  refine seq ?_
  refine region ?_
  refine sv (yAsg rfl) ?_
  refine nil ?_
  show Code.wp _ _ _ _ _
  refine seq ?_
  refine seq ?_
  refine region ?_
  refine sv (yMove rfl) ?_
  refine sv (yLen rfl Tryz.underlying34) ?_
  refine sv (yMove rfl) ?_
  refine nil ?_
  show Code.wp _ _ _ _ _
  refine block ?_
  refine loop (fun f w zz => ∃ (k : Nat), f 0 = .slice a l.length cap ∧ f 1 = .int .i64 x ∧ f 7 = .int .i64 (l.length : Int) ∧ f 8 = .int .i64 (k : Int) ∧ StX [] w0 w [] ∧ (k ≤ l.length) ∧ (idxF (fun y => decide (x = y)) l 0 = idxF (fun y => decide (x = y)) (l.drop k) k) ∧ zz = l.length - k) _ ⟨_, rfl, 0, rfl, rfl, rfl, rfl, hS, (Nat.zero_le _), (rfl), rfl⟩ ?_
  clear hS
  rintro f w _ ⟨k, h0, h1, h7, h8, hS, hk, hI, rfl⟩
  refine seq ?_
  refine region ?_
  refine sv (yLss h8 h7) ?_
  refine nil ?_
  show Code.wp _ _ _ _ _
  refine seq ?_
  refine cond rfl (fun c9 => ?_) (fun c9 => ?_)
  ·
    simp only [Bool.and_eq_true, Bool.or_eq_true, Bool.and_eq_false_iff, Bool.or_eq_false_iff, decide_eq_true_eq, decide_eq_false_iff_not, Bool.not_eq_true, Bool.not_eq_false, Bool.not_not, Bool.not_eq_eq_eq_not, Bool.not_true, Bool.not_false, Bool.false_eq_true, Bool.true_eq_false, ne_eq, Decidable.not_not, not_false_eq_true, not_true_eq_false] at c9
    obtain ⟨q, hxq, hdq⟩ := drop_of (l := l) (k := k) (by omega)
    obtain ⟨bq, oq, csq, haq, hlenq, hcsq, hRq⟩ := hel (k) (by omega)
    obtain rfl : q = l[k] := (List.getElem?_eq_some_iff.1 hxq).2.symm
    generalize l[k] = q at hxq hdq hRq
    obtain ⟨rfl, -⟩ := hRq
    refine skip ?_
    show Code.wp _ _ _ _ _
    refine seq ?_
    refine block ?_
    refine seq ?_
    refine region ?_
    refine sv (yMove h8) ?_
    refine sv (yAsg rfl) ?_
    refine nil ?_
    show Code.wp _ _ _ _ _
    refine seq ?_
    refine region ?_
    refine sv (yMove h1) ?_
    refine sv (yMove h0) ?_
    refine sv (yMove rfl) ?_
    refine sv (yIxa rfl haq rfl Tryz.runUnderlying34 Tryz.sizeOf3 (by omega) (by omega)) ?_
    refine sv (yLd rfl Tryz.isAgg3 ((hcsq.ext hS.ext).one)) ?_
    refine sv (yEql rfl rfl) ?_
    refine nil ?_
    show Code.wp _ _ _ _ _
    refine cond rfl (fun c16 => ?_) (fun c16 => ?_)
    ·
      simp only [Bool.and_eq_true, Bool.or_eq_true, Bool.and_eq_false_iff, Bool.or_eq_false_iff, decide_eq_true_eq, decide_eq_false_iff_not, Bool.not_eq_true, Bool.not_eq_false, Bool.not_not, Bool.not_eq_eq_eq_not, Bool.not_true, Bool.not_false, Bool.false_eq_true, Bool.true_eq_false, ne_eq, Decidable.not_not, not_false_eq_true, not_true_eq_false] at c16
      refine seq ?_
      refine region ?_
      refine sv (yMove rfl) ?_
      refine sv (yAsg rfl) ?_
      refine nil ?_
      show Code.wp _ _ _ _ _
      refine wp_ret (blockR (thenR (thenR (blockR (thenR ?_)))))
      exact retV (res1 rfl (eqI (by rw [hI, hdq, idxF, if_pos (by simpa using c16)]))) hS.ext
    ·
      simp only [Bool.and_eq_true, Bool.or_eq_true, Bool.and_eq_false_iff, Bool.or_eq_false_iff, decide_eq_true_eq, decide_eq_false_iff_not, Bool.not_eq_true, Bool.not_eq_false, Bool.not_not, Bool.not_eq_eq_eq_not, Bool.not_true, Bool.not_false, Bool.false_eq_true, Bool.true_eq_false, ne_eq, Decidable.not_not, not_false_eq_true, not_true_eq_false] at c16
      refine skip ?_
      show Code.wp _ _ _ _ _
      refine region ?_
      refine sv (yAdd h8 rfl ⟨by omega, by omega⟩) ?_
      refine sv (yMove rfl) ?_
      refine nil ?_
      exact ⟨_, _, rfl, ⟨k + 1, h0, h1, h7, rfl, hS, (by omega), (by rw [hI, hdq, idxF, if_neg (by simpa using c16)]; rfl), rfl⟩, by omega⟩
  ·
    simp only [Bool.and_eq_true, Bool.or_eq_true, Bool.and_eq_false_iff, Bool.or_eq_false_iff, decide_eq_true_eq, decide_eq_false_iff_not, Bool.not_eq_true, Bool.not_eq_false, Bool.not_not, Bool.not_eq_eq_eq_not, Bool.not_true, Bool.not_false, Bool.false_eq_true, Bool.true_eq_false, ne_eq, Decidable.not_not, not_false_eq_true, not_true_eq_false] at c9
    obtain rfl : k = l.length := by omega
    refine exit ?_
    show Code.wp _ _ _ _ _
    refine seq ?_
    refine region ?_
    refine sv (yAsg rfl) ?_
    refine nil ?_
    show Code.wp _ _ _ _ _
    refine wp_ret ?_
    exact retV (res1 rfl (eqI (by rw [hI, List.drop_length]; rfl))) hS.ext
/-- slices.Contains   int,int  -/
theorem c_ContainsI {l : List Int} {x : Int} {v : Value} {w0 : World} (hsl : Sl w0 1 RInt v l) : CV Tryz.prog 123 #[v, .int .i64 x] w0 (.bool (decide (x ∈ l))) := by
  refine enter Tryz.func123 rfl Tryz.ntmps123 rfl ?_
  have hS := St.start w0
  refine seq ?_
  refine region ?_
  refine sv (yAsg rfl) ?_
  refine nil ?_
  show Code.wp _ _ _ _ _
  refine seq ?_
  refine region ?_
  refine sv (yMove rfl) ?_
  refine sv (yMove rfl) ?_
  refine scall Tryz.call140 (.cons rfl (.cons rfl .nil)) (c_IndexI hsl) ?_
  rintro _ w ⟨rfl, hE⟩; replace hS := hS.step hE; clear hE
  refine sv (yGeq rfl rfl) ?_
  refine sv (yAsg rfl) ?_
  refine nil ?_
  show Code.wp _ _ _ _ _
  refine wp_ret ?_
  exact retV (res1 rfl (eqB (by rw [idxF_any _ l 0 (Int.le_refl 0), any_has]))) hS.ext
set_option maxHeartbeats 1000000 in
/-- slices.Compare   int,int  -/
theorem c_CompareI {la lb : List Int} {va vb : Value} {w0 : World} (ha : Sl w0 1 RInt va la) (hb : Sl w0 1 RInt vb lb) : CV Tryz.prog 92 #[va, vb] w0 (.int .i64 (cmpL la lb)) := by
  obtain ⟨aa, ca, rfl, hca, hma, hela⟩ := ha
  obtain ⟨ab, cb, rfl, hcb, hmb, helb⟩ := hb
  refine enter Tryz.func92 rfl Tryz.ntmps92 rfl ?_
  have hS := St.start w0
  refine seq ?_
  refine region ?_
  refine sv (yAsg rfl) ?_
  refine nil ?_
  show Code.wp _ _ _ _ _
  refine seq ?_
  refine seq ?_
  refine region ?_
  refine sv (yMove rfl) ?_
  refine sv (yLen rfl Tryz.underlying34) ?_
  refine sv (yMove rfl) ?_
  refine nil ?_
  show Code.wp _ _ _ _ _
  refine block ?_
  refine loop (fun f w zz => ∃ (k : Nat), f 0 = .slice aa la.length ca ∧ f 1 = .slice ab lb.length cb ∧ f 9 = .slice aa la.length ca ∧ f 10 = .int .i64 (la.length : Int) ∧ f 11 = .int .i64 (k : Int) ∧ StX [] w0 w [] ∧ (k ≤ la.length) ∧ (cmpL la lb = cmpL (la.drop k) (lb.drop k)) ∧ zz = la.length - k) _ ⟨_, rfl, 0, rfl, rfl, rfl, rfl, rfl, hS, (Nat.zero_le _), (rfl), rfl⟩ ?_
  clear hS
  rintro f w _ ⟨k, h0, h1, h9, h10, h11, hS, hk, hI, rfl⟩
  refine seq ?_
  refine region ?_
  refine sv (yLss h11 h10) ?_
  refine nil ?_
  show Code.wp _ _ _ _ _
  refine seq ?_
  refine cond rfl (fun c12 => ?_) (fun c12 => ?_)
  ·
    simp only [Bool.and_eq_true, Bool.or_eq_true, Bool.and_eq_false_iff, Bool.or_eq_false_iff, decide_eq_true_eq, decide_eq_false_iff_not, Bool.not_eq_true, Bool.not_eq_false, Bool.not_not, Bool.not_eq_eq_eq_not, Bool.not_true, Bool.not_false, Bool.false_eq_true, Bool.true_eq_false, ne_eq, Decidable.not_not, not_false_eq_true, not_true_eq_false] at c12
    obtain ⟨x, hxx, hdx⟩ := drop_of (l := la) (k := k) (by omega)
    obtain ⟨bx, ox, csx, hax, hlenx, hcsx, hRx⟩ := hela (k) (by omega)
    obtain rfl : x = la[k] := (List.getElem?_eq_some_iff.1 hxx).2.symm
    generalize la[k] = x at hxx hdx hRx
    obtain ⟨rfl, hxi⟩ := hRx
    refine skip ?_
    show Code.wp _ _ _ _ _
    refine seq ?_
    refine block ?_
    refine seq ?_
    refine region ?_
    refine sv (yMove h11) ?_
    refine sv (yIxa h9 hax h11 Tryz.runUnderlying34 Tryz.sizeOf3 (by omega) (by omega)) ?_
    refine sv (yLd rfl Tryz.isAgg3 ((hcsx.ext hS.ext).one)) ?_
    refine sv (yAsg rfl) ?_
    refine sv (yAsg rfl) ?_
    refine nil ?_
    show Code.wp _ _ _ _ _
    refine seq ?_
    refine seq ?_
    refine region ?_
    refine sv (yMove rfl) ?_
    refine sv (yMove h1) ?_
    refine sv (yLen rfl Tryz.underlying34) ?_
    refine sv (yGeq rfl rfl) ?_
    refine nil ?_
    show Code.wp _ _ _ _ _
    refine cond rfl (fun c19 => ?_) (fun c19 => ?_)
    ·
      simp only [Bool.and_eq_true, Bool.or_eq_true, Bool.and_eq_false_iff, Bool.or_eq_false_iff, decide_eq_true_eq, decide_eq_false_iff_not, Bool.not_eq_true, Bool.not_eq_false, Bool.not_not, Bool.not_eq_eq_eq_not, Bool.not_true, Bool.not_false, Bool.false_eq_true, Bool.true_eq_false, ne_eq, Decidable.not_not, not_false_eq_true, not_true_eq_false] at c19
      refine seq ?_
      refine region ?_
      refine sv (yAsg rfl) ?_
      refine nil ?_
      show Code.wp _ _ _ _ _
      refine wp_ret (thenR (blockR (thenR (thenR (blockR (thenR ?_))))))
      exact retV (res1 rfl (eqI (cmpL_long (k := k) (by omega) (by omega) hI))) hS.ext
    ·
      simp only [Bool.and_eq_true, Bool.or_eq_true, Bool.and_eq_false_iff, Bool.or_eq_false_iff, decide_eq_true_eq, decide_eq_false_iff_not, Bool.not_eq_true, Bool.not_eq_false, Bool.not_not, Bool.not_eq_eq_eq_not, Bool.not_true, Bool.not_false, Bool.false_eq_true, Bool.true_eq_false, ne_eq, Decidable.not_not, not_false_eq_true, not_true_eq_false] at c19
      obtain ⟨y, hxz, hdz⟩ := drop_of (l := lb) (k := k) (by omega)
      obtain ⟨bz, oz, csz, haz, hlenz, hcsz, hRz⟩ := helb (k) (by omega)
      obtain rfl : y = lb[k] := (List.getElem?_eq_some_iff.1 hxz).2.symm
      generalize lb[k] = y at hxz hdz hRz
      obtain ⟨rfl, hyi⟩ := hRz
      refine skip ?_
      show Code.wp _ _ _ _ _
      refine seq ?_
      refine region ?_
      refine sv (yMove h1) ?_
      refine sv (yMove rfl) ?_
      refine sv (yIxa rfl haz rfl Tryz.runUnderlying34 Tryz.sizeOf3 (by omega) (by omega)) ?_
      refine sv (yLd rfl Tryz.isAgg3 ((hcsz.ext hS.ext).one)) ?_
      refine sv (yAsg rfl) ?_
      refine nil ?_
      show Code.wp _ _ _ _ _
      refine seq ?_
      refine region ?_
      refine sv (yMove rfl) ?_
      refine sv (yMove rfl) ?_
      refine scall Tryz.call119 (.cons rfl (.cons rfl .nil)) c_cmp ?_
      rintro _ w ⟨rfl, hE⟩; replace hS := hS.step hE; clear hE
      refine sv (yAsg rfl) ?_
      refine nil ?_
      show Code.wp _ _ _ _ _
      refine seq ?_
      refine region ?_
      refine sv (yMove rfl) ?_
      refine sv (yNeq rfl rfl) ?_
      refine nil ?_
      show Code.wp _ _ _ _ _
      refine cond rfl (fun c28 => ?_) (fun c28 => ?_)
      ·
        simp only [Bool.and_eq_true, Bool.or_eq_true, Bool.and_eq_false_iff, Bool.or_eq_false_iff, decide_eq_true_eq, decide_eq_false_iff_not, Bool.not_eq_true, Bool.not_eq_false, Bool.not_not, Bool.not_eq_eq_eq_not, Bool.not_true, Bool.not_false, Bool.false_eq_true, Bool.true_eq_false, ne_eq, Decidable.not_not, not_false_eq_true, not_true_eq_false] at c28
        refine seq ?_
        refine region ?_
        refine sv (yMove rfl) ?_
        refine sv (yAsg rfl) ?_
        refine nil ?_
        show Code.wp _ _ _ _ _
        refine wp_ret (blockR (thenR (thenR (blockR (thenR ?_)))))
        exact retV (res1 rfl (eqI ((cmpL_drop hxx hxz hI).trans (cmp_hit c28)))) hS.ext
      ·
        simp only [Bool.and_eq_true, Bool.or_eq_true, Bool.and_eq_false_iff, Bool.or_eq_false_iff, decide_eq_true_eq, decide_eq_false_iff_not, Bool.not_eq_true, Bool.not_eq_false, Bool.not_not, Bool.not_eq_eq_eq_not, Bool.not_true, Bool.not_false, Bool.false_eq_true, Bool.true_eq_false, ne_eq, Decidable.not_not, not_false_eq_true, not_true_eq_false] at c28
        refine skip ?_
        show Code.wp _ _ _ _ _
        refine region ?_
        refine sv (yAdd h11 rfl ⟨by omega, by omega⟩) ?_
        refine sv (yMove rfl) ?_
        refine nil ?_
        exact ⟨_, _, rfl, ⟨k + 1, h0, h1, h9, h10, rfl, hS, (by omega), ((cmpL_drop hxx hxz hI).trans (cmp_eq c28)), rfl⟩, by omega⟩
  ·
    simp only [Bool.and_eq_true, Bool.or_eq_true, Bool.and_eq_false_iff, Bool.or_eq_false_iff, decide_eq_true_eq, decide_eq_false_iff_not, Bool.not_eq_true, Bool.not_eq_false, Bool.not_not, Bool.not_eq_eq_eq_not, Bool.not_true, Bool.not_false, Bool.false_eq_true, Bool.true_eq_false, ne_eq, Decidable.not_not, not_false_eq_true, not_true_eq_false] at c12
    obtain rfl : k = la.length := by omega
    refine exit ?_
    show Code.wp _ _ _ _ _
    refine seq ?_
    refine seq ?_
    refine region ?_
    refine sv (yMove h0) ?_
    refine sv (yLen rfl Tryz.underlying34) ?_
    refine sv (yMove h1) ?_
    refine sv (yLen rfl Tryz.underlying34) ?_
    refine sv (yLss rfl rfl) ?_
    refine nil ?_
    show Code.wp _ _ _ _ _
    refine cond rfl (fun c35 => ?_) (fun c35 => ?_)
    ·
      simp only [Bool.and_eq_true, Bool.or_eq_true, Bool.and_eq_false_iff, Bool.or_eq_false_iff, decide_eq_true_eq, decide_eq_false_iff_not, Bool.not_eq_true, Bool.not_eq_false, Bool.not_not, Bool.not_eq_eq_eq_not, Bool.not_true, Bool.not_false, Bool.false_eq_true, Bool.true_eq_false, ne_eq, Decidable.not_not, not_false_eq_true, not_true_eq_false] at c35
      refine seq ?_
      refine region ?_
      refine sv (yAsg rfl) ?_
      refine nil ?_
      show Code.wp _ _ _ _ _
      refine wp_ret (thenR ?_)
      exact retV (res1 rfl (eqI ((cmpL_end hI).trans (if_pos (by omega))))) hS.ext
    ·
      simp only [Bool.and_eq_true, Bool.or_eq_true, Bool.and_eq_false_iff, Bool.or_eq_false_iff, decide_eq_true_eq, decide_eq_false_iff_not, Bool.not_eq_true, Bool.not_eq_false, Bool.not_not, Bool.not_eq_eq_eq_not, Bool.not_true, Bool.not_false, Bool.false_eq_true, Bool.true_eq_false, ne_eq, Decidable.not_not, not_false_eq_true, not_true_eq_false] at c35
      refine skip ?_
      show Code.wp _ _ _ _ _
      refine seq ?_
      refine region ?_
      refine sv (yAsg rfl) ?_
      refine nil ?_
      show Code.wp _ _ _ _ _
      refine wp_ret ?_
      exact retV (res1 rfl (eqI ((cmpL_end hI).trans (if_neg (by omega))))) hS.ext
set_option maxHeartbeats 2000000 in
/-- (*barrage/alarm.board).slots -/
theorem c_bslots {t : Task} {b : Nat} {now : Int} {A : List Int} {va : Value} {w0 : World} (hB : RBoard w0 b t) (hn : 0 ≤ now ∧ now ≤ 200000) (hA : Sl w0 1 RInt va A) (hAm : ∀ i ∈ A, 0 ≤ i ∧ i < t.towns.length) : CV Tryz.prog 93 #[.pointer (some ⟨b, 0, none⟩), .int .i64 now, va] w0 (.int .i64 ((plT t now).slots (chL t) A)) := by
  obtain ⟨a1, c1, a2, c2, a3, c3, a4, c4, a5, c5, T, hb, s1, s2, s3, s4, s5, hok⟩ := id hB.opn
  have hn8 := hok.ntw
  have hf8 := hok.nfl
  have hc4 := hok.nch
  obtain ⟨av, cv, rfl, hcapv, hmxv, helv⟩ := id hA
  refine enter Tryz.func93 rfl Tryz.ntmps93 rfl ?_
  have hS := St.start w0
  refine seq ?_
  refine region ?_
  refine sv (yAsg rfl) ?_
  refine nil ?_
  show Code.wp _ _ _ _ _
  refine seq ?_
  refine region ?_
  refine sv (yAsg rfl) ?_
  refine nil ?_
  show Code.wp _ _ _ _ _
  refine seq ?_
  refine seq ?_
  refine region ?_
  refine sv (yMove rfl) ?_
  refine sv (yNil rfl) ?_
  refine sv (fa141_0 rfl) ?_
  refine sv (fa26_1 rfl) ?_
  refine sv (yLdB rfl Tryz.isAgg22 (hS.ext.get hb) rfl) ?_
  refine sv (yLen rfl Tryz.underlying22) ?_
  refine sv (yMove rfl) ?_
  refine nil ?_
  show Code.wp _ _ _ _ _
  refine block ?_
  refine loop (fun f w zz => ∃ (c : Nat), f 0 = .pointer (some ⟨b, 0, none⟩) ∧ f 1 = .int .i64 now ∧ f 2 = .slice av A.length cv ∧ f 7 = .int .i64 (slK t now A c) ∧ f 17 = .slice a1 t.chans.length c1 ∧ f 18 = .int .i64 (t.chans.length : Int) ∧ f 19 = .int .i64 (c : Int) ∧ StX [] w0 w [] ∧ (c ≤ t.chans.length) ∧ zz = t.chans.length - c) _ ⟨_, rfl, 0, rfl, rfl, rfl, rfl, rfl, rfl, rfl, hS, (Nat.zero_le _), rfl⟩ ?_
  clear hS
  rintro f w _ ⟨c, h0, h1, h2, h7, h17, h18, h19, hS, hc, rfl⟩
  refine seq ?_
  refine region ?_
  refine sv (yLss h19 h18) ?_
  refine nil ?_
  show Code.wp _ _ _ _ _
  refine seq ?_
  refine cond rfl (fun c20 => ?_) (fun c20 => ?_)
  ·
    simp only [Bool.and_eq_true, Bool.or_eq_true, Bool.and_eq_false_iff, Bool.or_eq_false_iff, decide_eq_true_eq, decide_eq_false_iff_not, Bool.not_eq_true, Bool.not_eq_false, Bool.not_not, Bool.not_eq_eq_eq_not, Bool.not_true, Bool.not_false, Bool.false_eq_true, Bool.true_eq_false, ne_eq, Decidable.not_not, not_false_eq_true, not_true_eq_false] at c20
    have hcl : c < t.chans.length := by omega
    have hcb : 0 ≤ (c : Int) ∧ (c : Int) < t.chans.length := by omega
    have hsb := slK_bd hok hn.1 A c hc
    obtain ⟨bc, oc, csc, hac, hlc, hcsc, hRc, -⟩ := sl_at s1 (chn_i (t := t) hcb)
    obtain ⟨rfl, -⟩ := hRc
    have hco := chan_ok hok hcb
    refine skip ?_
    show Code.wp _ _ _ _ _
    refine seq ?_
    refine block ?_
    refine seq ?_
    refine region ?_
    refine sv (yMove h19) ?_
    refine sv (yIxa h17 hac h19 Tryz.runUnderlying22 Tryz.sizeOf41 (by omega) (by omega)) ?_
    refine sv (yLdA rfl Tryz.isAgg41 Tryz.sizeOf41 (hcsc.ext hS.ext) rfl) ?_
    refine salloc hS Tryz.zeroValue41 rfl ?_; clear hS; intro b9 w hS
    refine sv (yAsg rfl) ?_
    refine sst hS rfl rfl Tryz.sizeOf41 rfl rfl rfl rfl ?_; clear hS; intro w hS
    refine nil ?_
    show Code.wp _ _ _ _ _
    refine seq ?_
    refine region ?_
    refine sv (yAsg rfl) ?_
    refine nil ?_
    show Code.wp _ _ _ _ _
    refine seq ?_
    refine seq ?_
    refine region ?_
    refine sv (yMove h2) ?_
    refine sv (yLen rfl Tryz.underlying34) ?_
    refine sv (yMove rfl) ?_
    refine nil ?_
    show Code.wp _ _ _ _ _
    refine block ?_
    refine loop (fun f w zz => ∃ (k : Nat), f 0 = .pointer (some ⟨b, 0, none⟩) ∧ f 1 = .int .i64 now ∧ f 2 = .slice av A.length cv ∧ f 7 = .int .i64 (slK t now A c) ∧ f 17 = .slice a1 t.chans.length c1 ∧ f 18 = .int .i64 (t.chans.length : Int) ∧ f 19 = .int .i64 (c : Int) ∧ f 8 = .int .i64 (c : Int) ∧ f 9 = .pointer (some ⟨b9, 0, none⟩) ∧ f 10 = .int .i64 ((plT t now).cnt (c : Int) (A.take k)) ∧ f 24 = .slice av A.length cv ∧ f 25 = .int .i64 (A.length : Int) ∧ f 26 = .int .i64 (k : Int) ∧ StX [] w0 w [blk b9 (chanC (chn t (c : Int))) 41] ∧ (k ≤ A.length) ∧ zz = A.length - k) _ ⟨_, rfl, 0, h0, h1, h2, h7, h17, h18, h19, rfl, rfl, rfl, rfl, rfl, rfl, hS, (Nat.zero_le _), rfl⟩ ?_
    clear hS
    rintro f w _ ⟨k, h0, h1, h2, h7, h17, h18, h19, h8, h9, h10, h24, h25, h26, hS, hk, rfl⟩
    refine seq ?_
    refine region ?_
    refine sv (yLss h26 h25) ?_
    refine nil ?_
    show Code.wp _ _ _ _ _
    refine seq ?_
    refine cond rfl (fun c27 => ?_) (fun c27 => ?_)
    ·
      simp only [Bool.and_eq_true, Bool.or_eq_true, Bool.and_eq_false_iff, Bool.or_eq_false_iff, decide_eq_true_eq, decide_eq_false_iff_not, Bool.not_eq_true, Bool.not_eq_false, Bool.not_not, Bool.not_eq_eq_eq_not, Bool.not_true, Bool.not_false, Bool.false_eq_true, Bool.true_eq_false, ne_eq, Decidable.not_not, not_false_eq_true, not_true_eq_false] at c27
      obtain ⟨i, hxv, hdv⟩ := drop_of (l := A) (k := k) (by omega)
      obtain ⟨bv, ov, csv, hav, hlenv, hcsv, hRv⟩ := helv (k) (by omega)
      obtain rfl : i = A[k] := (List.getElem?_eq_some_iff.1 hxv).2.symm
      generalize A[k] = i at hxv hdv hRv
      obtain ⟨rfl, hiI⟩ := hRv
      have hib := hAm i (List.mem_of_getElem? hxv)
      obtain ⟨bt, ot, cst, hat, hlt, hcst, hRt, -⟩ := sl_at s2 (twn_i (t := t) hib)
      obtain ⟨dvt, rfl, -, -, -, -, hslt, -⟩ := hRt
      have hto := town_ok hok hib
      have htl := hto.lead
      obtain ⟨ad, cd, rfl, -⟩ := id hslt
      have hcn := cnt_bd (plT_late t hn.1) (c : Int) (A.take k)
      have hlb : (plT t now).latest i (c : Int) = latestF t i (c : Int) := rfl
      refine skip ?_
      show Code.wp _ _ _ _ _
      refine seq ?_
      refine block ?_
      refine seq ?_
      refine region ?_
      refine sv (yIxa h24 hav h26 Tryz.runUnderlying34 Tryz.sizeOf3 (by omega) (by omega)) ?_
      refine sv (yLd rfl Tryz.isAgg3 ((hcsv.ext hS.ext).one)) ?_
      refine sv (yAsg rfl) ?_
      refine nil ?_
      show Code.wp _ _ _ _ _
      refine seq ?_
      refine region ?_
      refine sv (yMove h0) ?_
      refine sv (yNil rfl) ?_
      refine sv (fa141_0 rfl) ?_
      refine sv (fa26_2 rfl) ?_
      refine sv (yLdB rfl Tryz.isAgg23 (hS.ext.get hb) rfl) ?_
      refine sv (yMove rfl) ?_
      refine sv (yIxa rfl hat rfl Tryz.runUnderlying23 Tryz.sizeOf36 (by omega) (by omega)) ?_
      refine sv (fa36_4 rfl) ?_
      refine sv (yLd rfl Tryz.isAgg34 ((hcst.ext hS.ext).at (j := 4) rfl)) ?_
      refine sv (yMove h8) ?_
      refine scall Tryz.call123 (.cons rfl (.cons rfl .nil)) (c_ContainsI (hslt.ext RInt.stays hS.ext)) ?_
      rintro _ w ⟨rfl, hE⟩; replace hS := hS.step hE; clear hE
      refine nil ?_
      show Code.wp _ _ _ _ _
      refine cond rfl (fun c40 => ?_) (fun c40 => ?_)
      ·
        simp only [Bool.and_eq_true, Bool.or_eq_true, Bool.and_eq_false_iff, Bool.or_eq_false_iff, decide_eq_true_eq, decide_eq_false_iff_not, Bool.not_eq_true, Bool.not_eq_false, Bool.not_not, Bool.not_eq_eq_eq_not, Bool.not_true, Bool.not_false, Bool.false_eq_true, Bool.true_eq_false, ne_eq, Decidable.not_not, not_false_eq_true, not_true_eq_false] at c40
        have hin : (c : Int) ∈ (plT t now).chans i := c40
        have hlt : max ((plT t now).cnt (c : Int) (A.take k)) ((plT t now).latest i (c : Int) - (plT t now).now + 1) = max ((plT t now).cnt (c : Int) (A.take k)) (latestF t i (c : Int) - now + 1) := rfl
        have hla := act_bd hok hib
        have hll : latestF t i (c : Int) = min 200000 (actF t i - (chn t (c : Int)).delay) := rfl
        have hdel := hco.1
        refine region ?_
        refine sv (yMove h10) ?_
        refine sv (yMove h0) ?_
        refine sv (yMove rfl) ?_
        refine sv (yMove h8) ?_
        refine scall Tryz.call104 (.cons rfl (.cons rfl (.cons rfl .nil))) (c_latest (hB.ext hS.ext) hib hcb) ?_
        rintro _ w ⟨rfl, hE⟩; replace hS := hS.step hE; clear hE
        refine sv (yMove h1) ?_
        refine sv (ySub rfl rfl ⟨by omega, by omega⟩) ?_
        refine sv (yAdd rfl rfl ⟨by omega, by omega⟩) ?_
        refine sv (yMax rfl rfl) ?_
        refine sv (yAsg rfl) ?_
        refine nil ?_
        show Code.wp _ _ _ _ _
        refine region ?_
        refine sv (yAdd h26 rfl ⟨by omega, by omega⟩) ?_
        refine sv (yMove rfl) ?_
        refine nil ?_
        exact ⟨_, _, rfl, ⟨k + 1, h0, h1, h2, h7, h17, h18, h19, h8, h9, (rfl.trans (congrArg (Value.int .i64) (by rw [take_snoc hxv, cnt_snoc, if_pos hin, hlt]))), h24, h25, rfl, hS, (by omega), rfl⟩, by omega⟩
      ·
        simp only [Bool.and_eq_true, Bool.or_eq_true, Bool.and_eq_false_iff, Bool.or_eq_false_iff, decide_eq_true_eq, decide_eq_false_iff_not, Bool.not_eq_true, Bool.not_eq_false, Bool.not_not, Bool.not_eq_eq_eq_not, Bool.not_true, Bool.not_false, Bool.false_eq_true, Bool.true_eq_false, ne_eq, Decidable.not_not, not_false_eq_true, not_true_eq_false] at c40
        have hout : ¬ (c : Int) ∈ (plT t now).chans i := c40
        refine skip ?_
        show Code.wp _ _ _ _ _
        refine region ?_
        refine sv (yAdd h26 rfl ⟨by omega, by omega⟩) ?_
        refine sv (yMove rfl) ?_
        refine nil ?_
        exact ⟨_, _, rfl, ⟨k + 1, h0, h1, h2, h7, h17, h18, h19, h8, h9, (h10.trans (congrArg (Value.int .i64) (by rw [take_snoc hxv, cnt_snoc, if_neg hout]))), h24, h25, rfl, hS, (by omega), rfl⟩, by omega⟩
    ·
      simp only [Bool.and_eq_true, Bool.or_eq_true, Bool.and_eq_false_iff, Bool.or_eq_false_iff, decide_eq_true_eq, decide_eq_false_iff_not, Bool.not_eq_true, Bool.not_eq_false, Bool.not_not, Bool.not_eq_eq_eq_not, Bool.not_true, Bool.not_false, Bool.false_eq_true, Bool.true_eq_false, ne_eq, Decidable.not_not, not_false_eq_true, not_true_eq_false] at c27
      obtain rfl : k = A.length := by omega
      rw [List.take_length] at h10
      have hcn := cnt_bd (plT_late t hn.1) (c : Int) A
      have hpr := prod_bd hcn hco.2
      refine exit ?_
      show Code.wp _ _ _ _ _
      refine region ?_
      refine sv (yMove h7) ?_
      refine sv (yMove h10) ?_
      refine sv (fa41_2 h9) ?_
      refine sv (yLdB rfl Tryz.isAgg3 (hS.at _) rfl) ?_
      refine sv (yMul rfl rfl ⟨by omega, by omega⟩) ?_
      refine sv (yAdd rfl rfl ⟨by omega, by omega⟩) ?_
      refine sv (yAsg rfl) ?_
      refine nil ?_
      show Code.wp _ _ _ _ _
      refine region ?_
      refine sv (yAdd h19 rfl ⟨by omega, by omega⟩) ?_
      refine sv (yMove rfl) ?_
      refine nil ?_
      exact ⟨_, _, rfl, ⟨c + 1, h0, h1, h2, (rfl.trans (congrArg (Value.int .i64) (slK_succ now A hcl).symm)), h17, h18, rfl, (hS.sub (List.nil_sublist _)), (by omega), rfl⟩, by omega⟩
  ·
    simp only [Bool.and_eq_true, Bool.or_eq_true, Bool.and_eq_false_iff, Bool.or_eq_false_iff, decide_eq_true_eq, decide_eq_false_iff_not, Bool.not_eq_true, Bool.not_eq_false, Bool.not_not, Bool.not_eq_eq_eq_not, Bool.not_true, Bool.not_false, Bool.false_eq_true, Bool.true_eq_false, ne_eq, Decidable.not_not, not_false_eq_true, not_true_eq_false] at c20
    obtain rfl : c = t.chans.length := by omega
    refine exit ?_
    show Code.wp _ _ _ _ _
    refine seq ?_
    refine region ?_
    refine sv (yMove h7) ?_
    refine sv (yAsg rfl) ?_
    refine nil ?_
    show Code.wp _ _ _ _ _
    refine wp_ret ?_
    exact retV (res1 rfl (eqI (slK_end t now A).symm)) hS.ext
end Go.Proofs.YtmoilbakmlekbaaGreatDoor

/- part Aw43 -/
namespace Go.Proofs.YtmoilbakmlekbaaGreatDoor
open Go Bx
set_option maxHeartbeats 4000000 in
/-- barrage/alarm.Blocked -/
theorem c_Blocked {t : Task} {hv nv fv : Value} {now : Int} {w0 : World} (hg : Glb w0) (h : RTask w0 [.int .i64 t.polders, hv, nv, fv] t) : CE Tryz.prog 39 #[.agg [.int .i64 t.polders, hv, nv, fv].toArray, .int .i64 now] w0 (fun u w' => ∃ lv, u = .tuple #[lv, .int .i64 (blkR t now).2] ∧ Sl w' 1 RInt lv (blkR t now).1 ∧ Ext w0 w') := by
  obtain ⟨hv', nv', fv', he0, hpol, hsh, hsn, hsf⟩ := id h
  obtain ⟨rfl, rfl, rfl⟩ : hv' = hv ∧ nv' = nv ∧ fv' = fv := by simpa [eq_comm] using he0
  obtain ⟨a1, cap1, rfl, hcap1, hmx1, hel1⟩ := id hsh
  obtain ⟨a2, cap2, rfl, hcap2, hmx2, hel2⟩ := id hsn
  obtain ⟨a3, cap3, rfl, hcap3, hmx3, hel3⟩ := id hsf
  refine enter Tryz.func39 rfl Tryz.ntmps39 rfl ?_
  have hS := St.start w0
  refine seq ?_
  refine region ?_
  refine sbox hS rfl rfl ?_; clear hS; intro b2 w hS
  refine sv (yAsg rfl) ?_
  refine sv (yAsg rfl) ?_
  refine nil ?_
  show Code.wp _ _ _ _ _
  refine scope ?_
  refine seq ?_
  refine region ?_
  refine sv (yLdBA rfl Tryz.isAgg26 Tryz.sizeOf26 (hS.at _) rfl rfl) ?_
  refine sv (yMove rfl) ?_
  refine scall Tryz.call47 (.cons rfl (.cons rfl .nil)) (c_at (hg.ext hS.ext) (h.ext hS.ext)) ?_
  rintro _ w (⟨he, rfl, hE⟩ | ⟨he, bb, b1, bz, rfl, hM⟩)
  ·
    replace hS := hS.step hE; clear hE
    refine sv (yMove rfl) ?_
    refine sv (yExt rfl rfl) ?_
    refine sv (yExt rfl rfl) ?_
    refine sv (yAsg rfl) ?_
    refine sv (yAsg rfl) ?_
    refine nil ?_
    show Code.wp _ _ _ _ _
    refine seq ?_
    refine seq ?_
    refine region ?_
    refine sv (yMove rfl) ?_
    refine sv (yNeq rfl rfl) ?_
    refine nil ?_
    show Code.wp _ _ _ _ _
    refine cond rfl (fun c20 => ?_) (fun c20 => ?_)
    ·
      simp only [Bool.and_eq_true, Bool.or_eq_true, Bool.and_eq_false_iff, Bool.or_eq_false_iff, decide_eq_true_eq, decide_eq_false_iff_not, Bool.not_eq_true, Bool.not_eq_false, Bool.not_not, Bool.not_eq_eq_eq_not, Bool.not_true, Bool.not_false, Bool.false_eq_true, Bool.true_eq_false, ne_eq, Decidable.not_not, not_false_eq_true, not_true_eq_false] at c20
      refine seq ?_
      refine region ?_
      refine sv (yMove rfl) ?_
      refine sv (yAsg rfl) ?_
      refine sv (yAsg rfl) ?_
      refine nil ?_
      show Code.wp _ _ _ _ _
      refine wp_ret (thenR (scopeR ?_))
      refine retQ (res2 rfl rfl rfl) ?_
      have hf : blkR t now = ([], atE t now) := if_pos he
      rw [hf]
      exact ⟨_, rfl, Sl.nil, hS.ext⟩
    ·
      simp only [Bool.and_eq_true, Bool.or_eq_true, Bool.and_eq_false_iff, Bool.or_eq_false_iff, decide_eq_true_eq, decide_eq_false_iff_not, Bool.not_eq_true, Bool.not_eq_false, Bool.not_not, Bool.not_eq_eq_eq_not, Bool.not_true, Bool.not_false, Bool.false_eq_true, Bool.true_eq_false, ne_eq, Decidable.not_not, not_false_eq_true, not_true_eq_false] at c20
      exact absurd c20 he
  ·
    replace hS := hS.call hM; clear hM
    obtain ⟨hok, hn⟩ := atE_ok he
    replace hS : StX [] w0 w [blk bb [.int .i64 t.polders, .slice a1 t.chans.length cap1, .slice a2 t.towns.length cap2, .slice a3 t.floods.length cap3, .slice (some ⟨b1, 0, none⟩) t.towns.length t.towns.length, .slice (some ⟨bz, 0, none⟩) t.towns.length t.towns.length] 141, blk b1 ((arrS t).flatMap spanC) 44, blk bz ((arrN t).flatMap Bx.encI) 3, blk b2 [.int .i64 t.polders, .slice a1 t.chans.length cap1, .slice a2 t.towns.length cap2, .slice a3 t.floods.length cap3] 26] := hS
    have hB : RBoard w bb t := board_mk (hS.at bb) (h.ext hS.ext) hok (hS.at b1) (hS.at bz)
    have hE0 := hS.ext
    obtain ⟨w0, hwq⟩ : ∃ wq, wq = w := ⟨w, rfl⟩
    rw [← hwq] at hE0 hB
    replace hS : StX [] w0 w [] := by rw [hwq]; exact St.start w
    clear hwq
    have hwl := wetL_len t
    have hn8 := hok.ntw
    refine sv (yMove rfl) ?_
    refine sv (yExt rfl rfl) ?_
    refine sv (yExt rfl rfl) ?_
    refine sv (yAsg rfl) ?_
    refine sv (yAsg rfl) ?_
    refine nil ?_
    show Code.wp _ _ _ _ _
    refine seq ?_
    refine seq ?_
    refine region ?_
    refine sv (yMove rfl) ?_
    refine sv (yNeq rfl rfl) ?_
    refine nil ?_
    show Code.wp _ _ _ _ _
    refine cond rfl (fun c20 => ?_) (fun c20 => ?_)
    ·
      exact absurd c20 (by decide)
    ·
      refine skip ?_
      show Code.wp _ _ _ _ _
      refine seq ?_
      refine region ?_
      refine sv (yMove rfl) ?_
      refine scall Tryz.call48 (.cons rfl .nil) (c_wet (hB.ext hS.ext)) ?_
      rintro tv w hM; replace hS := hS.call1 hM; clear hM
      obtain ⟨aw, cw, rfl⟩ := row_shape (hS.row tv)
      have hpw := pow_cast (wetL t).length
      have hp8 := pow_le8 (n := (wetL t).length) (by omega)
      refine sv (yAsg rfl) ?_
      refine nil ?_
      show Code.wp _ _ _ _ _
      refine seq ?_
      refine label ?_
      show Code.wp _ _ _ _ _
      refine seq ?_
      refine seq ?_
      refine region ?_
      refine sv (yAsg rfl) ?_
      refine nil ?_
      show Code.wp _ _ _ _ _
      refine block ?_
      refine loop (fun f w zz => ∃ (b : Nat) (af : Option Addr) (cf : Nat) (fo : Option (List Int)), f 1 = .int .i64 now ∧ f 4 = .slice af (fo.getD []).length cf ∧ f 6 = .pointer (some ⟨bb, 0, none⟩) ∧ f 7 = .slice aw (wetL t).length cw ∧ f 8 = .int .i64 ((b : Int) + 1) ∧ StX [] w0 w [rowI (.slice af (fo.getD []).length cf) 3 1 (fo.getD []).length ((fo.getD []).flatMap Bx.encI), rowI (.slice aw (wetL t).length cw) 3 1 ((wetL t)).length (((wetL t)).flatMap Bx.encI)] ∧ (b ≤ 2 ^ (wetL t).length - 1) ∧ (fo = bestL (blkP t now) ((bitSets (wetL t)).take b)) ∧ (af = none ↔ fo = none) ∧ zz = 2 ^ (wetL t).length - b) _ ⟨_, rfl, 0, _, _, none, rfl, rfl, rfl, rfl, (rfl.trans (congrArg (Value.int .i64) (by simp))), (hS.nilrow 3 1), (Nat.zero_le _), (rfl), (⟨fun _ => rfl, fun _ => rfl⟩), rfl⟩ ?_
      clear hS
      rintro f w _ ⟨b, af, cf, fo, h1, h4, h6, h7, h8, hS, hb, hfo, hfa, rfl⟩
      have hfs : ∀ g, fo = some g → g.Sublist (wetL t) := fun g hg2 => (best_ne (hfo.symm.trans hg2)).2
      have hfl := getD_len hfs
      refine seq ?_
      refine seq ?_
      refine region ?_
      refine sv (yMove h8) ?_
      refine sv (yMove h7) ?_
      refine sv (yLen rfl Tryz.underlying34) ?_
      refine sv (yShlI rfl rfl (by omega) (by omega) ⟨by rw [hpw]; omega, by rw [hpw]; omega⟩) ?_
      refine sv (yLss rfl rfl) ?_
      refine nil ?_
      show Code.wp _ _ _ _ _
      refine cond rfl (fun c28 => ?_) (fun c28 => ?_)
      ·
        simp only [Bool.and_eq_true, Bool.or_eq_true, Bool.and_eq_false_iff, Bool.or_eq_false_iff, decide_eq_true_eq, decide_eq_false_iff_not, Bool.not_eq_true, Bool.not_eq_false, Bool.not_not, Bool.not_eq_eq_eq_not, Bool.not_true, Bool.not_false, Bool.false_eq_true, Bool.true_eq_false, ne_eq, Decidable.not_not, not_false_eq_true, not_true_eq_false] at c28
        rw [hpw] at c28
        have hbl : b < 2 ^ (wetL t).length - 1 := by omega
        have hbg := bitSets_get hbl
        refine skip ?_
        show Code.wp _ _ _ _ _
        refine seq ?_
        refine block ?_
        refine seq ?_
        refine region ?_
        refine sv (yAsg rfl) ?_
        refine nil ?_
        show Code.wp _ _ _ _ _
        refine seq ?_
        refine seq ?_
        refine region ?_
        refine sv (yMove h7) ?_
        refine sv (yLen rfl Tryz.underlying34) ?_
        refine sv (yMove rfl) ?_
        refine nil ?_
        show Code.wp _ _ _ _ _
        refine block ?_
        refine loop (fun f w zz => ∃ (k : Nat) (uv : Value), f 1 = .int .i64 now ∧ f 4 = .slice af (fo.getD []).length cf ∧ f 6 = .pointer (some ⟨bb, 0, none⟩) ∧ f 7 = .slice aw (wetL t).length cw ∧ f 8 = .int .i64 ((b : Int) + 1) ∧ f 9 = uv ∧ f 31 = .slice aw (wetL t).length cw ∧ f 32 = .int .i64 ((wetL t).length : Int) ∧ f 33 = .int .i64 (k : Int) ∧ StX [] w0 w [rowI (uv) 3 1 (subsB ((wetL t).take k) (b + 1)).length ((subsB ((wetL t).take k) (b + 1)).flatMap Bx.encI), rowI (.slice af (fo.getD []).length cf) 3 1 (fo.getD []).length ((fo.getD []).flatMap Bx.encI), rowI (.slice aw (wetL t).length cw) 3 1 ((wetL t)).length (((wetL t)).flatMap Bx.encI)] ∧ (k ≤ (wetL t).length) ∧ zz = (wetL t).length - k) _ ⟨_, rfl, 0, _, h1, h4, h6, h7, h8, rfl, rfl, rfl, rfl, (hS.nilrow 3 1), (Nat.zero_le _), rfl⟩ ?_
        clear hS
        rintro f w _ ⟨k, uv, h1, h4, h6, h7, h8, h9, h31, h32, h33, hS, hk, rfl⟩
        refine seq ?_
        refine region ?_
        refine sv (yLss h33 h32) ?_
        refine nil ?_
        show Code.wp _ _ _ _ _
        refine seq ?_
        refine cond rfl (fun c34 => ?_) (fun c34 => ?_)
        ·
          simp only [Bool.and_eq_true, Bool.or_eq_true, Bool.and_eq_false_iff, Bool.or_eq_false_iff, decide_eq_true_eq, decide_eq_false_iff_not, Bool.not_eq_true, Bool.not_eq_false, Bool.not_not, Bool.not_eq_eq_eq_not, Bool.not_true, Bool.not_false, Bool.false_eq_true, Bool.true_eq_false, ne_eq, Decidable.not_not, not_false_eq_true, not_true_eq_false] at c34
          obtain ⟨x, hxw, -⟩ := drop_of (l := (wetL t)) (k := k) (by omega)
          obtain ⟨go, hao, -⟩ := row_get (hS.row (.slice aw (wetL t).length cw)) (by omega)
          have hbd := bit_div b k
          have hsl := subsB_len ((wetL t).take k) (b + 1)
          have htl : ((wetL t).take k).length ≤ k := by simp; omega
          have hdv : (b + 1) / 2 ^ k ≤ b + 1 := Nat.div_le_self _ _
          refine skip ?_
          show Code.wp _ _ _ _ _
          refine seq ?_
          refine block ?_
          refine seq ?_
          refine region ?_
          refine sv (yMove h33) ?_
          refine sv (yIxa h31 hao h33 Tryz.runUnderlying34 Tryz.sizeOf3 (by omega) (by omega)) ?_
          refine sv (yLd rfl Tryz.isAgg3 ((flat_cells (enc := Bx.encI) encI_len (row_at (hS.row (.slice aw (wetL t).length cw)) hao (by omega)) hxw).one)) ?_
          refine sv (yAsg rfl) ?_
          refine sv (yAsg rfl) ?_
          refine nil ?_
          show Code.wp _ _ _ _ _
          refine seq ?_
          refine region ?_
          refine sv (yMove h8) ?_
          refine sv (yMove rfl) ?_
          refine sv (yShrI rfl rfl (by omega) (by omega)) ?_
          refine sv (yAnd1 rfl rfl (bit_bd (by omega))) ?_
          refine sv (yEql rfl rfl) ?_
          refine nil ?_
          show Code.wp _ _ _ _ _
          refine cond rfl (fun c42 => ?_) (fun c42 => ?_)
          ·
            simp only [Bool.and_eq_true, Bool.or_eq_true, Bool.and_eq_false_iff, Bool.or_eq_false_iff, decide_eq_true_eq, decide_eq_false_iff_not, Bool.not_eq_true, Bool.not_eq_false, Bool.not_not, Bool.not_eq_eq_eq_not, Bool.not_true, Bool.not_false, Bool.false_eq_true, Bool.true_eq_false, ne_eq, Decidable.not_not, not_false_eq_true, not_true_eq_false] at c42
            rw [hbd, bit_mod] at c42
            have hbk := c42
            refine region ?_
            refine sv (yMove h9) ?_
            refine sv (yMove rfl) ?_
            refine sbslice hS Tryz.underlying34 Tryz.sizeOf3 rfl Tryz.zeroValue3 rfl (.cons rfl rfl .nil) rfl ?_; clear hS; intro b45 w hS
            refine sapp (bytes := 8) (size := 1) (v := uv) (m := 1) hS rfl rfl Tryz.underlying34 ti3 rfl rfl rfl rfl (by decide) (blk_cells (hS.at _)) rfl rfl (by omega) (by omega) ?_; clear hS; intro v46 w hS
            refine sv (yAsg rfl) ?_
            refine nil ?_
            show Code.wp _ _ _ _ _
            refine region ?_
            refine sv (yAdd h33 rfl ⟨by omega, by omega⟩) ?_
            refine sv (yMove rfl) ?_
            refine nil ?_
            exact ⟨_, _, rfl, ⟨k + 1, _, h1, h4, h6, h7, h8, rfl, h31, h32, rfl, (by rw [subsB_step hxw, if_pos hbk, List.flatMap_append, List.length_append]; exact hS.sub (.cons _ (List.Sublist.refl _))), (by omega), rfl⟩, by omega⟩
          ·
            simp only [Bool.and_eq_true, Bool.or_eq_true, Bool.and_eq_false_iff, Bool.or_eq_false_iff, decide_eq_true_eq, decide_eq_false_iff_not, Bool.not_eq_true, Bool.not_eq_false, Bool.not_not, Bool.not_eq_eq_eq_not, Bool.not_true, Bool.not_false, Bool.false_eq_true, Bool.true_eq_false, ne_eq, Decidable.not_not, not_false_eq_true, not_true_eq_false] at c42
            rw [hbd, bit_mod] at c42
            have hbk := c42
            refine skip ?_
            show Code.wp _ _ _ _ _
            refine region ?_
            refine sv (yAdd h33 rfl ⟨by omega, by omega⟩) ?_
            refine sv (yMove rfl) ?_
            refine nil ?_
            exact ⟨_, _, rfl, ⟨k + 1, _, h1, h4, h6, h7, h8, h9, h31, h32, rfl, (by rw [subsB_step hxw, if_neg hbk, List.append_nil]; exact hS), (by omega), rfl⟩, by omega⟩
        ·
          simp only [Bool.and_eq_true, Bool.or_eq_true, Bool.and_eq_false_iff, Bool.or_eq_false_iff, decide_eq_true_eq, decide_eq_false_iff_not, Bool.not_eq_true, Bool.not_eq_false, Bool.not_not, Bool.not_eq_eq_eq_not, Bool.not_true, Bool.not_false, Bool.false_eq_true, Bool.true_eq_false, ne_eq, Decidable.not_not, not_false_eq_true, not_true_eq_false] at c34
          obtain rfl : k = (wetL t).length := by omega
          rw [List.take_length] at hS
          obtain ⟨ag, cg, rfl⟩ := row_shape (hS.row uv)
          have hne := bit_set (l := (wetL t)) (b := b + 1) (by omega) (by omega)
          have hsl := subsB_len (wetL t) (b + 1)
          have hag : ag ≠ none := fun hh => by obtain ⟨g, e, -⟩ := row_get (hS.row (.slice ag (subsB (wetL t) (b + 1)).length cg)) (List.length_pos_iff.2 hne); rw [hh] at e; cases e
          have hbe := betB_eq (fo := fo) (s := subsB (wetL t) (b + 1)) (isNone_dec hfa) rfl rfl
          refine exit ?_
          show Code.wp _ _ _ _ _
          refine seq ?_
          refine region ?_
          refine sv (yMove h4) ?_
          refine sv (yEqNil rfl rfl Tryz.underlying34) ?_
          refine sv (yMove rfl) ?_
          refine sg rfl rfl rfl (fun g => (yMove h9)) (fun v51 g51 => ?_)
          refine sg rfl rfl rfl (fun g => (yLen (g51.1 g) Tryz.underlying34)) (fun v52 g52 => ?_)
          refine sg rfl rfl rfl (fun g => (yMove h4)) (fun v53 g53 => ?_)
          refine sg rfl rfl rfl (fun g => (yLen (g53.1 g) Tryz.underlying34)) (fun v54 g54 => ?_)
          refine sg rfl rfl rfl (fun g => (yLss (g52.1 g) (g54.1 g))) (fun v55 g55 => ?_)
          refine sv (yOr rfl rfl (fun hB => (g55.1 hB))) ?_
          refine sv (yMove rfl) ?_
          refine sg rfl rfl rfl (fun g => (yMove h9)) (fun v58 g58 => ?_)
          refine sg rfl rfl rfl (fun g => (yLen (g58.1 g) Tryz.underlying34)) (fun v59 g59 => ?_)
          refine sg rfl rfl rfl (fun g => (yMove h4)) (fun v60 g60 => ?_)
          refine sg rfl rfl rfl (fun g => (yLen (g60.1 g) Tryz.underlying34)) (fun v61 g61 => ?_)
          refine sg rfl rfl rfl (fun g => (yEql (g59.1 g) (g61.1 g))) (fun v62 g62 => ?_)
          refine sg rfl rfl rfl (fun g => (yMove (g62.1 g))) (fun v63 g63 => ?_)
          refine sgg rfl rfl g63 (fun g => (yMove h9)) (fun v64 g64 => ?_)
          refine sgg rfl rfl g63 (fun g => (yMove h4)) (fun v65 g65 => ?_)
          refine sggc hS rfl rfl g63 Tryz.call92 (fun g => (.cons (g64.1 g) (.cons (g65.1 g) .nil))) (fun g => (c_CompareI (sl_ints (hS.row (.slice ag (subsB (wetL t) (b + 1)).length cg)) rfl (fun x hx => by have := wet_mem ((subsB_sub _ _).subset hx); constructor <;> omega)) (sl_ints (hS.row (.slice af (fo.getD []).length cf)) rfl (fun x hx => by have := wet_mem (getD_mem hfs x hx); constructor <;> omega)))) ?_; clear hS; intro v66 w hS g66
          refine sgg rfl rfl g63 (fun g => (yLss (g66.1 g) rfl)) (fun v67 g67 => ?_)
          refine sg rfl rfl rfl (fun g => (yAnd (g63.1 g) (fun hB => (g67.1 ⟨g, hB⟩)) rfl)) (fun v68 g68 => ?_)
          refine sv (yOr rfl rfl (fun hB => (g68.1 hB))) ?_
          refine sv (yAsg rfl) ?_
          refine nil ?_
          show Code.wp _ _ _ _ _
          refine seq ?_
          refine seq ?_
          refine region ?_
          refine sv (yMove rfl) ?_
          refine sv (yNot rfl) ?_
          refine sv (yMove rfl) ?_
          refine sg rfl rfl rfl (fun g => (yMove h6)) (fun v73 g73 => ?_)
          refine sg rfl rfl rfl (fun g => (yMove h1)) (fun v74 g74 => ?_)
          refine sg rfl rfl rfl (fun g => (yMove h9)) (fun v75 g75 => ?_)
          refine sgc hS rfl rfl rfl Tryz.call93 (fun g => (.cons (g73.1 g) (.cons (g74.1 g) (.cons (g75.1 g) .nil)))) (fun g => (c_bslots (hB.ext hS.ext) hn (sl_ints (hS.row (.slice ag (subsB (wetL t) (b + 1)).length cg)) rfl (fun x hx => by have := wet_mem ((subsB_sub _ _).subset hx); constructor <;> omega)) (fun x hx => wet_mem ((subsB_sub _ _).subset hx)))) ?_; clear hS; intro v76 w hS g76
          refine sg rfl rfl rfl (fun g => (yMove h9)) (fun v77 g77 => ?_)
          refine sg rfl rfl rfl (fun g => (yLen (g77.1 g) Tryz.underlying34)) (fun v78 g78 => ?_)
          refine sg rfl rfl rfl (fun g => (yGeq (g76.1 g) (g78.1 g))) (fun v79 g79 => ?_)
          refine sv (yOr rfl rfl (fun hB => (g79.1 hB))) ?_
          refine nil ?_
          show Code.wp _ _ _ _ _
          refine cond rfl (fun c80 => ?_) (fun c80 => ?_)
          ·
            refine exit ?_
            show Code.wp _ _ _ _ _
            refine region ?_
            refine sv (yMove h8) ?_
            refine sv (yAdd rfl rfl ⟨by omega, by omega⟩) ?_
            refine sv (yAsg rfl) ?_
            refine nil ?_
            exact ⟨_, _, rfl, ⟨b + 1, _, _, fo, h1, h4, h6, h7, (rfl.trans (congrArg (Value.int .i64) (by push_cast; omega))), (hS.sub (.cons _ (List.Sublist.refl _))), (by omega), (by rw [best_take hbg, ← hfo]; exact (bestStep_n (skip_of hbe c80)).symm), (hfa), rfl⟩, by omega⟩
          ·
            refine skip ?_
            show Code.wp _ _ _ _ _
            refine region ?_
            refine sv (yMove h9) ?_
            refine sv (yAsg rfl) ?_
            refine nil ?_
            show Code.wp _ _ _ _ _
            refine region ?_
            refine sv (yMove h8) ?_
            refine sv (yAdd rfl rfl ⟨by omega, by omega⟩) ?_
            refine sv (yAsg rfl) ?_
            refine nil ?_
            exact ⟨_, _, rfl, ⟨b + 1, _, _, some (subsB (wetL t) (b + 1)), h1, rfl, h6, h7, (rfl.trans (congrArg (Value.int .i64) (by push_cast; omega))), (hS.sub (.cons_cons _ (.cons _ (List.Sublist.refl _)))), (by omega), (by rw [best_take hbg, ← hfo]; exact (bestStep_y (take_of hbe c80).1 (take_of hbe c80).2).symm), (⟨fun hh => absurd hh hag, fun hh => by cases hh⟩), rfl⟩, by omega⟩
      ·
        simp only [Bool.and_eq_true, Bool.or_eq_true, Bool.and_eq_false_iff, Bool.or_eq_false_iff, decide_eq_true_eq, decide_eq_false_iff_not, Bool.not_eq_true, Bool.not_eq_false, Bool.not_not, Bool.not_eq_eq_eq_not, Bool.not_true, Bool.not_false, Bool.false_eq_true, Bool.true_eq_false, ne_eq, Decidable.not_not, not_false_eq_true, not_true_eq_false] at c28
        rw [hpw] at c28
        have hf := blk_done he (b := b) (by omega) hfo
        refine exit ?_
        show Code.wp _ _ _ _ _
        refine seq ?_
        refine region ?_
        refine sv (yMove h4) ?_
        refine sv (yAsg rfl) ?_
        refine sv (yAsg rfl) ?_
        refine nil ?_
        show Code.wp _ _ _ _ _
        refine wp_ret (scopeR ?_)
        refine retQ (res2 rfl rfl rfl) ?_
        rw [hf]
        exact ⟨_, rfl, (sl_ints (hS.row (.slice af (fo.getD []).length cf)) rfl (fun x hx => by have := wet_mem (getD_mem hfs x hx); constructor <;> omega)), hE0.trans hS.ext⟩
end Go.Proofs.YtmoilbakmlekbaaGreatDoor

/- part A35 -/
namespace Bx
open Go Go.RowKit
theorem ex_arr0 : arrR exT 0 = ((⟨23, 27⟩, 2), 0) := by rfl
theorem ex_arr2 : arrR exT 2 = ((⟨40, 40⟩, 1), 0) := by rfl
theorem ex_zones : zonesR exT 16 10 = ([[0, 1], [], [2]], 0) := by decide +kernel
theorem ex_plan2 : planR exT 19 = ([], 9) := by decide +kernel
theorem ex_blk1 : blkR exT 19 = ([0, 1], 0) := by decide +kernel
theorem ex_blk2 : blkR exT 20 = ([0], 0) := by decide +kernel
theorem ex_kn1 : knowsR exT exL 2 19 = (0, 0, 0) := by decide +kernel
theorem ex_kn2 : knowsR exT exL 2 20 = (1, 2, 0) := by decide +kernel
theorem ex_stages (k : Nat) (hk : k < 3) : ∃ a b c : Int, ([2, 2, 0] : List Int)[k]? = some a ∧ ([10, 30, 10] : List Int)[k]? = some b ∧ ([1, 2, 2] : List Int)[k]? = some c ∧ stageR exT a b = (c, 0) := by
  match k, hk with
  | 0, _ => exact ⟨2, 10, 1, rfl, rfl, rfl, by decide +kernel⟩
  | 1, _ => exact ⟨2, 30, 2, rfl, rfl, rfl, by decide +kernel⟩
  | 2, _ => exact ⟨0, 10, 2, rfl, rfl, rfl, by decide +kernel⟩
structure BlkOk (t : Task) (now : Int) (l : List Int) : Prop where
  sub : l.Sublist (wetL t)
  few : (plT t now).slots (chL t) l < l.length
  plan : (planR t now).2 = 9
  rest : ∀ i, i < l.length → ((l.take i ++ l.drop (i + 1)).length : Int) ≤ (plT t now).slots (chL t) (l.take i ++ l.drop (i + 1))
end Bx

/- part Aw48 -/
namespace Go.Proofs.YtmoilbakmlekbaaGreatDoor
open Go Bx
set_option maxHeartbeats 8000000 in
/-- barrage/barragelaw11.AlarmKnown -/
theorem w_AlarmKnown {w0 : World} (hg : Glb w0) : CV Tryz.prog 15 #[] w0 (.bool true) := by
  refine enter Tryz.func15 rfl Tryz.ntmps15 rfl ?_
  have hS := St.start w0
  refine seq ?_
  refine region ?_
  refine sv (yAsg rfl) ?_
  refine nil ?_
  show Code.wp _ _ _ _ _
  refine seq ?_
  refine region ?_
  refine scall Tryz.call42 .nil c_Task ?_
  rintro _ w0 ⟨hv1, nv1, fv1, rfl, hT1, hE⟩; have hE0 := hS.ext.trans hE; clear hS hE
  have hg1 := hg.ext hE0
  obtain ⟨hv2, nv2, fv2, he, -, hs1, hs2, hs3⟩ := id hT1
  obtain ⟨rfl, rfl, rfl⟩ : hv2 = hv1 ∧ nv2 = nv1 ∧ fv2 = fv1 := by simpa [eq_comm] using he
  obtain ⟨a1, q1, rfl, -⟩ := id hs1
  obtain ⟨a2, q2, rfl, -⟩ := id hs2
  obtain ⟨a3, q3, rfl, -⟩ := id hs3
  have hS : StX [] w0 w0 [] := St.start w0
  refine salloc hS Tryz.zeroValue26 rfl ?_; clear hS; intro b1 w hS
  refine sst hS rfl rfl Tryz.sizeOf26 rfl rfl rfl rfl ?_; clear hS; intro w hS
  refine nil ?_
  show Code.wp _ _ _ _ _
  refine seq ?_
  refine region ?_
  replace hS : StX [] w0 w (blk b1 [.int .i64 exT.polders, .slice a1 exT.chans.length q1, .slice a2 exT.towns.length q2, .slice a3 exT.floods.length q3] 26 :: []) := hS
  refine sv (yLdBA rfl Tryz.isAgg26 Tryz.sizeOf26 (hS.at _) rfl rfl) ?_
  refine scall Tryz.call23 (.cons rfl (.cons rfl .nil)) (c_Arrival (hg1.ext hS.ext) (hT1.ext hS.ext) (i := 0)) ?_
  rw [ex_arr0]
  rintro _ w ⟨rfl, hE⟩; replace hS := hS.step hE; clear hE
  refine sv (yMove rfl) ?_
  refine sv (yExt rfl rfl) ?_
  refine sv (yExt rfl rfl) ?_
  refine sv (yExt rfl rfl) ?_
  refine salloc hS Tryz.zeroValue44 rfl ?_; clear hS; intro b2 w hS
  refine sst hS rfl rfl Tryz.sizeOf44 rfl rfl rfl rfl ?_; clear hS; intro w hS
  refine sv (yAsg rfl) ?_
  refine sv (yAsg rfl) ?_
  refine nil ?_
  show Code.wp _ _ _ _ _
  refine seq ?_
  refine cutK (fun f => f 1 = .pointer (some ⟨b1, 0, none⟩) ∧ f 2 = .pointer (some ⟨b2, 0, none⟩) ∧ f 3 = .int .i64 2 ∧ f 4 = .int .i64 0 ∧ True) ⟨rfl, rfl, rfl, rfl, trivial⟩ ?_
  rintro f ⟨h1, h2, h3, h4, -⟩
  refine region ?_
  refine sv (yLdBA h1 Tryz.isAgg26 Tryz.sizeOf26 (hS.at _) rfl rfl) ?_
  refine scall Tryz.call23 (.cons rfl (.cons rfl .nil)) (c_Arrival (hg1.ext hS.ext) (hT1.ext hS.ext) (i := 2)) ?_
  rw [ex_arr2]
  rintro _ w ⟨rfl, hE⟩; replace hS := hS.step hE; clear hE
  refine sv (yMove rfl) ?_
  refine sv (yExt rfl rfl) ?_
  refine sv (yExt rfl rfl) ?_
  refine sv (yExt rfl rfl) ?_
  refine salloc hS Tryz.zeroValue44 rfl ?_; clear hS; intro b5 w hS
  refine sst hS rfl rfl Tryz.sizeOf44 rfl rfl rfl rfl ?_; clear hS; intro w hS
  refine sv (yAsg rfl) ?_
  refine sv (yAsg rfl) ?_
  refine nil ?_
  show Code.wp _ _ _ _ _
  refine seq ?_
  refine seq ?_
  refine cutK (fun f => f 1 = .pointer (some ⟨b1, 0, none⟩) ∧ f 2 = .pointer (some ⟨b2, 0, none⟩) ∧ f 3 = .int .i64 2 ∧ f 4 = .int .i64 0 ∧ f 5 = .pointer (some ⟨b5, 0, none⟩) ∧ f 6 = .int .i64 1 ∧ f 7 = .int .i64 0 ∧ True) ⟨h1, h2, h3, h4, rfl, rfl, rfl, trivial⟩ ?_
  rintro f ⟨h1, h2, h3, h4, h5, h6, h7, -⟩
  refine region ?_
  refine sv (yMove h4) ?_
  refine sv (yNeq rfl rfl) ?_
  refine sv (yMove rfl) ?_
  refine ungo rfl rfl rfl ?_
  refine sv (yMove h7) ?_
  refine ungo rfl rfl rfl ?_
  refine sv (yNeq rfl rfl) ?_
  refine sv (yOr rfl rfl (fun hB => rfl)) ?_
  refine sv (yMove rfl) ?_
  refine ungo rfl rfl rfl ?_
  refine sv (yLdBA h2 Tryz.isAgg44 Tryz.sizeOf44 (hS.at _) rfl rfl) ?_
  refine ungo rfl rfl rfl ?_
  refine sv (yBuild Tryz.zeroValue44 rfl pl44 (.cons rfl rfl (.cons rfl rfl .nil)) rfl) ?_
  refine ungo rfl rfl rfl ?_
  refine sv (neS44 rfl rfl) ?_
  refine sv (yOr rfl rfl (fun hB => rfl)) ?_
  refine sv (yMove rfl) ?_
  refine ungo rfl rfl rfl ?_
  refine sv (yMove h3) ?_
  refine ungo rfl rfl rfl ?_
  refine sv (yNeq rfl rfl) ?_
  refine sv (yOr rfl rfl (fun hB => rfl)) ?_
  refine sv (yMove rfl) ?_
  refine ungo rfl rfl rfl ?_
  refine sv (yLdBA h5 Tryz.isAgg44 Tryz.sizeOf44 (hS.at _) rfl rfl) ?_
  refine ungo rfl rfl rfl ?_
  refine sv (yBuild Tryz.zeroValue44 rfl pl44 (.cons rfl rfl (.cons rfl rfl .nil)) rfl) ?_
  refine ungo rfl rfl rfl ?_
  refine sv (neS44 rfl rfl) ?_
  refine sv (yOr rfl rfl (fun hB => rfl)) ?_
  refine sv (yMove rfl) ?_
  refine ungo rfl rfl rfl ?_
  refine sv (yMove h6) ?_
  refine ungo rfl rfl rfl ?_
  refine sv (yNeq rfl rfl) ?_
  refine sv (yOr rfl rfl (fun hB => rfl)) ?_
  refine nil ?_
  show Code.wp _ _ _ _ _
  refine cond rfl (fun c63 => ?_) (fun c63 => ?_)
  ·
    skip
    exact absurd c63 (by decide)
  ·
    skip
    refine skip ?_
    show Code.wp _ _ _ _ _
    refine seq ?_
    replace hS : StX [] w0 w (blk b1 [.int .i64 exT.polders, .slice a1 exT.chans.length q1, .slice a2 exT.towns.length q2, .slice a3 exT.floods.length q3] 26 :: []) := hS.sub (.cons _ (.cons _ (List.Sublist.refl _)))
    refine cutK (fun f => f 1 = .pointer (some ⟨b1, 0, none⟩) ∧ True) ⟨h1, trivial⟩ ?_
    rintro f ⟨h1, -⟩
    refine region ?_
    refine sbslice hS Tryz.underlying34 Tryz.sizeOf3 rfl Tryz.zeroValue3 rfl (.cons rfl rfl (.cons rfl rfl (.cons rfl rfl .nil))) rfl ?_; clear hS; intro b64 w hS
    refine sbslice hS Tryz.underlying34 Tryz.sizeOf3 rfl Tryz.zeroValue3 rfl (.cons rfl rfl (.cons rfl rfl (.cons rfl rfl .nil))) rfl ?_; clear hS; intro b65 w hS
    refine sbslice hS Tryz.underlying34 Tryz.sizeOf3 rfl Tryz.zeroValue3 rfl (.cons rfl rfl (.cons rfl rfl (.cons rfl rfl .nil))) rfl ?_; clear hS; intro b66 w hS
    refine sv (yAsg rfl) ?_
    refine sv (yAsg rfl) ?_
    refine sv (yAsg rfl) ?_
    refine nil ?_
    show Code.wp _ _ _ _ _
    refine seq ?_
    refine seq ?_
    refine region ?_
    refine sv (yAsg rfl) ?_
    refine nil ?_
    show Code.wp _ _ _ _ _
    refine block ?_
    refine loop (fun f w zz => ∃ (k : Nat), f 1 = .pointer (some ⟨b1, 0, none⟩) ∧ f 8 = .slice (some ⟨b64, 0, none⟩) 3 3 ∧ f 9 = .slice (some ⟨b65, 0, none⟩) 3 3 ∧ f 10 = .slice (some ⟨b66, 0, none⟩) 3 3 ∧ f 11 = .int .i64 (k : Int) ∧ StX [] w0 w ((blk b66 [.int .i64 1, .int .i64 2, .int .i64 2] 3 :: blk b65 [.int .i64 10, .int .i64 30, .int .i64 10] 3 :: blk b64 [.int .i64 2, .int .i64 2, .int .i64 0] 3 :: blk b1 [.int .i64 exT.polders, .slice a1 exT.chans.length q1, .slice a2 exT.towns.length q2, .slice a3 exT.floods.length q3] 26 :: [])) ∧ (k ≤ 3) ∧ zz = 3 - k) _ ⟨_, rfl, 0, h1, rfl, rfl, rfl, rfl, hS, (Nat.zero_le _), rfl⟩ ?_
    clear hS
    rintro f w _ ⟨k, h1, h8, h9, h10, h11, hS, hk, rfl⟩
    refine seq ?_
    refine seq ?_
    refine region ?_
    refine sv (yMove h11) ?_
    refine sv (yLss rfl rfl) ?_
    refine nil ?_
    show Code.wp _ _ _ _ _
    refine cond rfl (fun c68 => ?_) (fun c68 => ?_)
    ·
      simp only [Bool.and_eq_true, Bool.or_eq_true, Bool.and_eq_false_iff, Bool.or_eq_false_iff, decide_eq_true_eq, decide_eq_false_iff_not, Bool.not_eq_true, Bool.not_eq_false, Bool.not_not, Bool.not_eq_eq_eq_not, Bool.not_true, Bool.not_false, Bool.false_eq_true, Bool.true_eq_false, ne_eq, Decidable.not_not, not_false_eq_true, not_true_eq_false] at c68
      obtain ⟨x, u, z, hkx, hku, hkz, hst⟩ := ex_stages k (by omega)
      refine skip ?_
      show Code.wp _ _ _ _ _
      refine seq ?_
      refine block ?_
      refine seq ?_
      refine region_draw mixed (by kernel_rfl) hS ?_
      refine qv (fun w hS => (yLdBA h1 Tryz.isAgg26 Tryz.sizeOf26 (hS.at _) rfl rfl)) ?_
      refine qv (fun w hS => (yMove h8)) ?_
      refine qv (fun w hS => (yMove h11)) ?_
      refine qv (fun w hS => (yIx0 (m := k) rfl rfl Tryz.runUnderlying34 Tryz.sizeOf3 (by omega))) ?_
      refine qv (fun w hS => (yLd rfl Tryz.isAgg3 ((flat_cells0 (enc := Bx.encI) (l := [2, 2, 0]) encI_len (blk_cells (hS.at b64)) hkx).one))) ?_
      refine qv (fun w hS => (yMove h9)) ?_
      refine qv (fun w hS => (yMove h11)) ?_
      refine qv (fun w hS => (yIx0 (m := k) rfl rfl Tryz.runUnderlying34 Tryz.sizeOf3 (by omega))) ?_
      refine qv (fun w hS => (yLd rfl Tryz.isAgg3 ((flat_cells0 (enc := Bx.encI) (l := [10, 30, 10]) encI_len (blk_cells (hS.at b65)) hku).one))) ?_
      refine qcall Tryz.call25 (.cons rfl (.cons rfl (.cons rfl .nil))) (fun w hS => (c_Stage (hg1.ext hS.ext) (hT1.ext hS.ext))) ?_
      refine qv (fun w hS => (yMove rfl)) ?_
      refine qv (fun w hS => (yExt rfl rfl)) ?_
      refine qv (fun w hS => (yExt rfl rfl)) ?_
      refine qv (fun w hS => (yAsg rfl)) ?_
      refine qv (fun w hS => (yAsg rfl)) ?_
      clear hS; refine qnil (fun w hS => ?_)
      show Code.wp _ _ _ _ _
      refine seq ?_
      refine region ?_
      refine sv (yMove rfl) ?_
      refine sv (yNeq rfl rfl) ?_
      refine sv (yMove rfl) ?_
      refine sg rfl rfl rfl (fun g => (yMove rfl)) (fun v87 g87 => ?_)
      refine sg rfl rfl rfl (fun g => (yMove h10)) (fun v88 g88 => ?_)
      refine sg rfl rfl rfl (fun g => (yMove h11)) (fun v89 g89 => ?_)
      refine sg rfl rfl rfl (fun g => (yIx0 (m := k) (g88.1 g) (g89.1 g) Tryz.runUnderlying34 Tryz.sizeOf3 (by omega))) (fun v90 g90 => ?_)
      refine sg rfl rfl rfl (fun g => (yLd (g90.1 g) Tryz.isAgg3 ((flat_cells0 (enc := Bx.encI) (l := [1, 2, 2]) encI_len (blk_cells (hS.at b66)) hkz).one))) (fun v91 g91 => ?_)
      refine sg rfl rfl rfl (fun g => (yNeq (g87.1 g) (g91.1 g))) (fun v92 g92 => ?_)
      refine sv (yOr rfl rfl (fun hB => (g92.1 hB))) ?_
      refine nil ?_
      show Code.wp _ _ _ _ _
      refine cond rfl (fun c93 => ?_) (fun c93 => ?_)
      ·
        rw [hst] at c93; exact absurd c93 (by simp)
      ·
        refine skip ?_
        show Code.wp _ _ _ _ _
        refine region ?_
        refine sv (yMove h11) ?_
        refine sv (yAdd rfl rfl ⟨by omega, by omega⟩) ?_
        refine sv (yAsg rfl) ?_
        refine nil ?_
        exact ⟨_, _, rfl, ⟨k + 1, h1, h8, h9, h10, rfl, hS, (by omega), rfl⟩, by omega⟩
    ·
      simp only [Bool.and_eq_true, Bool.or_eq_true, Bool.and_eq_false_iff, Bool.or_eq_false_iff, decide_eq_true_eq, decide_eq_false_iff_not, Bool.not_eq_true, Bool.not_eq_false, Bool.not_not, Bool.not_eq_eq_eq_not, Bool.not_true, Bool.not_false, Bool.false_eq_true, Bool.true_eq_false, ne_eq, Decidable.not_not, not_false_eq_true, not_true_eq_false] at c68
      replace hS : StX [] w0 w (blk b1 [.int .i64 exT.polders, .slice a1 exT.chans.length q1, .slice a2 exT.towns.length q2, .slice a3 exT.floods.length q3] 26 :: []) := hS.sub (.cons _ (.cons _ (.cons _ (List.Sublist.refl _))))
      refine exit ?_
      show Code.wp _ _ _ _ _
      refine seq ?_
      refine region ?_
      refine sv (yLdBA h1 Tryz.isAgg26 Tryz.sizeOf26 (hS.at _) rfl rfl) ?_
      refine scall Tryz.call28 (.cons rfl (.cons rfl (.cons rfl .nil))) (c_Zones (hg1.ext hS.ext) (hT1.ext hS.ext)) ?_
      rw [ex_zones]
      rintro _ w ⟨zv, rfl, hKz, hE⟩; replace hS := hS.step hE; clear hE
      refine sv (yMove rfl) ?_
      refine sv (yExt rfl rfl) ?_
      refine sv (yExt rfl rfl) ?_
      refine sv (yAsg rfl) ?_
      refine sv (yAsg rfl) ?_
      refine nil ?_
      show Code.wp _ _ _ _ _
      refine seq ?_
      refine cutK (fun f => f 1 = .pointer (some ⟨b1, 0, none⟩) ∧ f 14 = zv ∧ f 4 = .int .i64 0 ∧ True) ⟨h1, rfl, rfl, trivial⟩ ?_
      rintro f ⟨h1, h14, h4, -⟩
      refine region ?_
      refine sv (yLdBA h1 Tryz.isAgg26 Tryz.sizeOf26 (hS.at _) rfl rfl) ?_
      refine scall Tryz.call18 (.cons rfl (.cons rfl .nil)) (c_Plan (hg1.ext hS.ext) (hT1.ext hS.ext)) ?_
      rw [ex_plan]
      rintro _ w ⟨pv, rfl, hM⟩; have hE := hM.ext; replace hKz := hKz.ext RRow.stays hE; have hKp := sl_slots (hM.row pv) rfl (by decide); replace hS := hS.step hE; clear hE hM
      refine sv (yMove rfl) ?_
      refine sv (yExt rfl rfl) ?_
      refine sv (yExt rfl rfl) ?_
      refine sv (yAsg rfl) ?_
      refine sv (yAsg rfl) ?_
      refine nil ?_
      show Code.wp _ _ _ _ _
      refine seq ?_
      refine cutK (fun f => f 1 = .pointer (some ⟨b1, 0, none⟩) ∧ f 14 = zv ∧ f 4 = .int .i64 0 ∧ f 15 = pv ∧ f 7 = .int .i64 0 ∧ True) ⟨h1, h14, h4, rfl, rfl, trivial⟩ ?_
      rintro f ⟨h1, h14, h4, h15, h7, -⟩
      refine region ?_
      refine sv (yLdBA h1 Tryz.isAgg26 Tryz.sizeOf26 (hS.at _) rfl rfl) ?_
      refine scall Tryz.call18 (.cons rfl (.cons rfl .nil)) (c_Plan (hg1.ext hS.ext) (hT1.ext hS.ext)) ?_
      rw [ex_plan2]
      rintro _ w ⟨qv, rfl, hM⟩; have hE := hM.ext; replace hKz := hKz.ext RRow.stays hE; replace hKp := hKp.ext RSlot.stays hE; replace hS := hS.step hE; clear hE hM
      refine sv (yMove rfl) ?_
      refine sv (yExt rfl rfl) ?_
      refine sv (yExt rfl rfl) ?_
      refine sv (yAsg rfl) ?_
      refine sv (yAsg rfl) ?_
      refine nil ?_
      show Code.wp _ _ _ _ _
      refine seq ?_
      refine cutK (fun f => f 1 = .pointer (some ⟨b1, 0, none⟩) ∧ f 14 = zv ∧ f 4 = .int .i64 0 ∧ f 15 = pv ∧ f 7 = .int .i64 0 ∧ f 17 = .int .i64 9 ∧ True) ⟨h1, h14, h4, h15, h7, rfl, trivial⟩ ?_
      rintro f ⟨h1, h14, h4, h15, h7, h17, -⟩
      refine region ?_
      refine sv (yLdBA h1 Tryz.isAgg26 Tryz.sizeOf26 (hS.at _) rfl rfl) ?_
      refine scall Tryz.call39 (.cons rfl (.cons rfl .nil)) (c_Blocked (hg1.ext hS.ext) (hT1.ext hS.ext)) ?_
      rw [ex_blk1]
      rintro _ w ⟨bv, rfl, hKb, hE⟩; replace hKz := hKz.ext RRow.stays hE; replace hKp := hKp.ext RSlot.stays hE; replace hS := hS.step hE; clear hE
      refine sv (yMove rfl) ?_
      refine sv (yExt rfl rfl) ?_
      refine sv (yExt rfl rfl) ?_
      refine sv (yAsg rfl) ?_
      refine sv (yAsg rfl) ?_
      refine nil ?_
      show Code.wp _ _ _ _ _
      refine seq ?_
      refine cutK (fun f => f 1 = .pointer (some ⟨b1, 0, none⟩) ∧ f 14 = zv ∧ f 4 = .int .i64 0 ∧ f 15 = pv ∧ f 7 = .int .i64 0 ∧ f 17 = .int .i64 9 ∧ f 18 = bv ∧ f 19 = .int .i64 0 ∧ True) ⟨h1, h14, h4, h15, h7, h17, rfl, rfl, trivial⟩ ?_
      rintro f ⟨h1, h14, h4, h15, h7, h17, h18, h19, -⟩
      refine region ?_
      refine sv (yLdBA h1 Tryz.isAgg26 Tryz.sizeOf26 (hS.at _) rfl rfl) ?_
      refine scall Tryz.call39 (.cons rfl (.cons rfl .nil)) (c_Blocked (hg1.ext hS.ext) (hT1.ext hS.ext)) ?_
      rw [ex_blk2]
      rintro _ w ⟨dv, rfl, hKd, hE⟩; replace hKz := hKz.ext RRow.stays hE; replace hKp := hKp.ext RSlot.stays hE; replace hKb := hKb.ext RInt.stays hE; replace hS := hS.step hE; clear hE
      refine sv (yMove rfl) ?_
      refine sv (yExt rfl rfl) ?_
      refine sv (yExt rfl rfl) ?_
      refine sv (yAsg rfl) ?_
      refine sv (yAsg rfl) ?_
      refine nil ?_
      show Code.wp _ _ _ _ _
      refine seq ?_
      refine seq ?_
      have hb1 : w.heap[b1]? = some (.cells [.int .i64 exT.polders, .slice a1 exT.chans.length q1, .slice a2 exT.towns.length q2, .slice a3 exT.floods.length q3].toArray 26 (0, 0)) := hS.at b1
      have hE2 := hE0.trans hS.ext
      have hT2 := hT1.ext hS.ext
      have hg2 := hg1.ext hS.ext
      obtain ⟨w0, hwq⟩ : ∃ wq, wq = w := ⟨w, rfl⟩
      rw [← hwq] at hE2 hb1 hT2 hg2 hKz hKp hKb hKd
      replace hS : StX [] w0 w [] := by rw [hwq]; exact St.start w
      clear hwq
      refine cutK (fun f => f 1 = .pointer (some ⟨b1, 0, none⟩) ∧ f 14 = zv ∧ f 4 = .int .i64 0 ∧ f 15 = pv ∧ f 7 = .int .i64 0 ∧ f 17 = .int .i64 9 ∧ f 18 = bv ∧ f 19 = .int .i64 0 ∧ f 20 = dv ∧ f 21 = .int .i64 0 ∧ True) ⟨h1, h14, h4, h15, h7, h17, h18, h19, rfl, rfl, trivial⟩ ?_
      rintro f ⟨h1, h14, h4, h15, h7, h17, h18, h19, h20, h21, -⟩
      refine region ?_
      refine sv (yMove h4) ?_
      refine sv (yNeq rfl rfl) ?_
      refine sv (yMove rfl) ?_
      refine ungo rfl rfl rfl ?_
      refine sv (yMove h7) ?_
      refine ungo rfl rfl rfl ?_
      refine sv (yNeq rfl rfl) ?_
      refine sv (yOr rfl rfl (fun hB => rfl)) ?_
      refine sv (yMove rfl) ?_
      refine ungo rfl rfl rfl ?_
      refine sv (yMove h17) ?_
      refine ungo rfl rfl rfl ?_
      refine sv (yNeq rfl rfl) ?_
      refine sv (yOr rfl rfl (fun hB => rfl)) ?_
      refine sv (yMove rfl) ?_
      refine ungo rfl rfl rfl ?_
      refine sv (yMove h19) ?_
      refine ungo rfl rfl rfl ?_
      refine sv (yNeq rfl rfl) ?_
      refine sv (yOr rfl rfl (fun hB => rfl)) ?_
      refine sv (yMove rfl) ?_
      refine ungo rfl rfl rfl ?_
      refine sv (yMove h21) ?_
      refine ungo rfl rfl rfl ?_
      refine sv (yNeq rfl rfl) ?_
      refine sv (yOr rfl rfl (fun hB => rfl)) ?_
      refine sv (yMove rfl) ?_
      refine ungo rfl rfl rfl ?_
      refine sv (yMove h14) ?_
      refine ungo rfl rfl rfl ?_
      refine sbslice hS Tryz.underlying34 Tryz.sizeOf3 rfl Tryz.zeroValue3 rfl (.cons rfl rfl (.cons rfl rfl .nil)) rfl ?_; clear hS; intro b139 w hS
      refine ungo rfl rfl rfl ?_
      refine sbslice hS Tryz.underlying34 Tryz.sizeOf3 rfl Tryz.zeroValue3 rfl (.cons rfl rfl .nil) rfl ?_; clear hS; intro b140 w hS
      refine ungo rfl rfl rfl ?_
      refine sbslice hS Tryz.underlying24 Tryz.sizeOf34 rfl Tryz.zeroValue34 rfl (.cons rfl rfl (.cons rfl rfl (.cons rfl rfl .nil))) rfl ?_; clear hS; intro b141 w hS
      refine ungo rfl rfl rfl ?_
      refine scall Tryz.call30 (.cons rfl (.cons rfl .nil)) (c_Lists (hKz.ext RRow.stays hS.ext) (show Sl w 1 RRow (.slice (some ⟨b141, 0, none⟩) 3 3) ([[0, 1], [], [2]] : List (List Int)) from sl_of_blk (hS.at b141) (css := [[.slice (some ⟨b139, 0, none⟩) 2 2], [.slice none 0 0], [.slice (some ⟨b140, 0, none⟩) 1 1]]) (l := ([[0, 1], [], [2]] : List (List Int))) rfl ⟨rfl, ⟨_, rfl, (ints_sl (l := [0, 1]) (hS.at b139) (by decide) (by decide))⟩, rfl, ⟨_, rfl, Sl.nil⟩, rfl, ⟨_, rfl, (ints_sl (l := [2]) (hS.at b140) (by decide) (by decide))⟩, trivial⟩ (by decide) rfl)) ?_
      rw [decide_eq_true rfl]
      rintro _ w ⟨rfl, hE⟩; replace hS := hS.step hE; clear hE
      refine ungo rfl rfl rfl ?_
      refine sv (yNot rfl) ?_
      refine sv (yOr rfl rfl (fun hB => rfl)) ?_
      refine sv (yMove rfl) ?_
      refine ungo rfl rfl rfl ?_
      refine sv (yMove h15) ?_
      refine ungo rfl rfl rfl ?_
      refine sv (yBuild Tryz.zeroValue38 rfl pl38 (.cons rfl rfl .nil) rfl) ?_
      refine ungo rfl rfl rfl ?_
      refine sv (yBuild Tryz.zeroValue38 rfl pl38 (.cons rfl rfl (.cons rfl rfl .nil)) rfl) ?_
      refine ungo rfl rfl rfl ?_
      refine sv (yBuild Tryz.zeroValue38 rfl pl38 (.cons rfl rfl (.cons rfl rfl (.cons rfl rfl .nil))) rfl) ?_
      refine ungo rfl rfl rfl ?_
      refine sbslice hS Tryz.underlying27 Tryz.sizeOf38 rfl Tryz.zeroValue38 rfl (.cons rfl rfl (.cons rfl rfl (.cons rfl rfl .nil))) rfl ?_; clear hS; intro b150 w hS
      refine ungo rfl rfl rfl ?_
      refine scall Tryz.call38 (.cons rfl (.cons rfl .nil)) (c_Slots (hKp.ext RSlot.stays hS.ext) (show Sl w 3 RSlot (.slice (some ⟨b150, 0, none⟩) 3 3) ([exS1, exS2, exS3] : List Slot) from sl_of_blk (hS.at b150) (css := [[.int .i64 0, .int .i64 0, .int .i64 18], [.int .i64 1, .int .i64 0, .int .i64 19], [.int .i64 2, .int .i64 1, .int .i64 18]]) (l := ([exS1, exS2, exS3] : List Slot)) rfl ⟨rfl, ⟨rfl, by decide, by decide, by decide⟩, rfl, ⟨rfl, by decide, by decide, by decide⟩, rfl, ⟨rfl, by decide, by decide, by decide⟩, trivial⟩ (by decide) rfl)) ?_
      rw [decide_eq_true rfl]
      rintro _ w ⟨rfl, hE⟩; replace hS := hS.step hE; clear hE
      refine ungo rfl rfl rfl ?_
      refine sv (yNot rfl) ?_
      refine sv (yOr rfl rfl (fun hB => rfl)) ?_
      refine sv (yMove rfl) ?_
      refine ungo rfl rfl rfl ?_
      refine sv (yMove h18) ?_
      refine ungo rfl rfl rfl ?_
      refine sbslice hS Tryz.underlying34 Tryz.sizeOf3 rfl Tryz.zeroValue3 rfl (.cons rfl rfl (.cons rfl rfl .nil)) rfl ?_; clear hS; intro b156 w hS
      refine ungo rfl rfl rfl ?_
      refine scall Tryz.call41 (.cons rfl (.cons rfl .nil)) (c_Ints (hKb.ext RInt.stays hS.ext) (ints_sl (l := [0, 1]) (hS.at b156) (by decide) (by decide))) ?_
      rw [decide_eq_true rfl]
      rintro _ w ⟨rfl, hE⟩; replace hS := hS.step hE; clear hE
      refine ungo rfl rfl rfl ?_
      refine sv (yNot rfl) ?_
      refine sv (yOr rfl rfl (fun hB => rfl)) ?_
      refine sv (yMove rfl) ?_
      refine ungo rfl rfl rfl ?_
      refine sv (yMove h20) ?_
      refine ungo rfl rfl rfl ?_
      refine sbslice hS Tryz.underlying34 Tryz.sizeOf3 rfl Tryz.zeroValue3 rfl (.cons rfl rfl .nil) rfl ?_; clear hS; intro b162 w hS
      refine ungo rfl rfl rfl ?_
      refine scall Tryz.call41 (.cons rfl (.cons rfl .nil)) (c_Ints (hKd.ext RInt.stays hS.ext) (ints_sl (l := [0]) (hS.at b162) (by decide) (by decide))) ?_
      rw [decide_eq_true rfl]
      rintro _ w ⟨rfl, hE⟩; replace hS := hS.step hE; clear hE
      refine ungo rfl rfl rfl ?_
      refine sv (yNot rfl) ?_
      refine sv (yOr rfl rfl (fun hB => rfl)) ?_
      refine nil ?_
      show Code.wp _ _ _ _ _
      refine cond rfl (fun c165 => ?_) (fun c165 => ?_)
      ·
        skip
        exact absurd c165 (by decide)
      ·
        skip
        refine skip ?_
        show Code.wp _ _ _ _ _
        refine seq ?_
        replace hS : StX [] w0 w [] := hS.sub (List.nil_sublist _)
        refine cutK (fun f => f 1 = .pointer (some ⟨b1, 0, none⟩) ∧ True) ⟨h1, trivial⟩ ?_
        rintro f ⟨h1, -⟩
        refine region ?_
        refine sv (yLdBA h1 Tryz.isAgg26 Tryz.sizeOf26 (hS.ext.get hb1) rfl rfl) ?_
        refine scall Tryz.call33 (.cons rfl (.cons rfl (.cons rfl .nil))) (c_Next (hg2.ext hS.ext) (hT2.ext hS.ext) (log := []) Sl.nil) ?_
        rw [ex_next]
        rintro _ w ⟨mv, rfl, hM⟩; replace hS := hS.call1 hM; clear hM
        refine sv (yMove rfl) ?_
        refine sv (yExt rfl rfl) ?_
        refine sv (yExt rfl rfl) ?_
        refine sv (yAsg rfl) ?_
        refine sv (yAsg rfl) ?_
        refine nil ?_
        show Code.wp _ _ _ _ _
        refine seq ?_
        refine cutK (fun f => f 1 = .pointer (some ⟨b1, 0, none⟩) ∧ f 22 = mv ∧ f 4 = .int .i64 0 ∧ True) ⟨h1, rfl, rfl, trivial⟩ ?_
        rintro f ⟨h1, h22, h4, -⟩
        refine region_mix (fun w => w.heap[b1]? = some (.cells ([.int .i64 exT.polders, .slice a1 exT.chans.length q1, .slice a2 exT.towns.length q2, .slice a3 exT.floods.length q3] : List Value).toArray 26 (0, 0))) 10 mixed hS ?_
        clear hS; intro w hS
        refine f_step 0 (by kernel_rfl) rfl (fun c a a' w h => by obtain ⟨_, v, hv, _⟩ := h; cases hv) (hS.ext.get hb1) (fun w hS => (yLdBA h1 Tryz.isAgg26 Tryz.sizeOf26 hS rfl rfl)) ?_
        show wpA _ _ _ _ _ _ _ _ _ _
        refine a_step (i := 1) (is := []) (by kernel_rfl) ⟨?_, trivial⟩
        refine ⟨_, rfl, ?_⟩
        refine scall Tryz.call43 .nil c_Log ?_
        rintro lg1 w ⟨hL1, hE⟩; replace hS := hS.step hE; clear hE
        refine nil ?_
        refine ⟨fun _ => (hS.ext.get hb1), ?_⟩
        show wpA _ _ _ _ _ _ _ _ _ _
        show wpA _ _ _ _ _ _ _ _ _ _
        refine a_step (i := 2) (is := []) (by kernel_rfl) ⟨?_, trivial⟩
        refine ⟨_, rfl, ?_⟩
        refine scall Tryz.call31 (.cons rfl (.cons rfl (.cons rfl (.cons rfl .nil)))) (c_Knows (hg2.ext hS.ext) (hT2.ext hS.ext) (hL1.ext RMsg.stays (Ext.refl _)) (i := 2) (tk := 19)) ?_
        rw [ex_kn1]
        rintro _ w ⟨rfl, hE⟩; replace hS := hS.step hE; clear hE
        refine nil ?_
        refine ⟨fun _ => (hS.ext.get hb1), ?_⟩
        show wpA _ _ _ _ _ _ _ _ _ _
        refine f_step 3 (by kernel_rfl) rfl (fun c a a' w h => by obtain ⟨_, v, hv, _⟩ := h; cases hv) (hS.ext.get hb1) (fun w hS => (yMove rfl)) ?_
        refine f_step 4 (by kernel_rfl) rfl (fun c a a' w h => by obtain ⟨_, v, hv, _⟩ := h; cases hv) (hS.ext.get hb1) (fun w hS => (yExt rfl rfl)) ?_
        refine f_step 5 (by kernel_rfl) rfl (fun c a a' w h => by obtain ⟨_, v, hv, _⟩ := h; cases hv) (hS.ext.get hb1) (fun w hS => (yExt rfl rfl)) ?_
        refine f_step 6 (by kernel_rfl) rfl (fun c a a' w h => by obtain ⟨_, v, hv, _⟩ := h; cases hv) (hS.ext.get hb1) (fun w hS => (yExt rfl rfl)) ?_
        refine f_step 7 (by kernel_rfl) rfl (fun c a a' w h => by obtain ⟨_, v, hv, _⟩ := h; cases hv) (hS.ext.get hb1) (fun w hS => (yAsg rfl)) ?_
        refine f_step 8 (by kernel_rfl) rfl (fun c a a' w h => by obtain ⟨_, v, hv, _⟩ := h; cases hv) (hS.ext.get hb1) (fun w hS => (yAsg rfl)) ?_
        refine f_step 9 (by kernel_rfl) rfl (fun c a a' w h => by obtain ⟨_, v, hv, _⟩ := h; cases hv) (hS.ext.get hb1) (fun w hS => (yAsg rfl)) ?_
        refine a_end (by kernel_rfl) ?_
        show Code.wp _ _ _ _ _
        refine seq ?_
        refine cutK (fun f => f 1 = .pointer (some ⟨b1, 0, none⟩) ∧ f 22 = mv ∧ f 4 = .int .i64 0 ∧ f 23 = .int .i64 0 ∧ f 24 = .int .i64 0 ∧ f 7 = .int .i64 0 ∧ True) ⟨h1, h22, h4, rfl, rfl, rfl, trivial⟩ ?_
        rintro f ⟨h1, h22, h4, h23, h24, h7, -⟩
        refine region_mix (fun w => w.heap[b1]? = some (.cells ([.int .i64 exT.polders, .slice a1 exT.chans.length q1, .slice a2 exT.towns.length q2, .slice a3 exT.floods.length q3] : List Value).toArray 26 (0, 0))) 10 mixed hS ?_
        clear hS; intro w hS
        refine f_step 0 (by kernel_rfl) rfl (fun c a a' w h => by obtain ⟨_, v, hv, _⟩ := h; cases hv) (hS.ext.get hb1) (fun w hS => (yLdBA h1 Tryz.isAgg26 Tryz.sizeOf26 hS rfl rfl)) ?_
        show wpA _ _ _ _ _ _ _ _ _ _
        refine a_step (i := 1) (is := []) (by kernel_rfl) ⟨?_, trivial⟩
        refine ⟨_, rfl, ?_⟩
        refine scall Tryz.call43 .nil c_Log ?_
        rintro lg2 w ⟨hL2, hE⟩; replace hS := hS.step hE; clear hE
        refine nil ?_
        refine ⟨fun _ => (hS.ext.get hb1), ?_⟩
        show wpA _ _ _ _ _ _ _ _ _ _
        show wpA _ _ _ _ _ _ _ _ _ _
        refine a_step (i := 2) (is := []) (by kernel_rfl) ⟨?_, trivial⟩
        refine ⟨_, rfl, ?_⟩
        refine scall Tryz.call31 (.cons rfl (.cons rfl (.cons rfl (.cons rfl .nil)))) (c_Knows (hg2.ext hS.ext) (hT2.ext hS.ext) (hL2.ext RMsg.stays (Ext.refl _)) (i := 2) (tk := 20)) ?_
        rw [ex_kn2]
        rintro _ w ⟨rfl, hE⟩; replace hS := hS.step hE; clear hE
        refine nil ?_
        refine ⟨fun _ => (hS.ext.get hb1), ?_⟩
        show wpA _ _ _ _ _ _ _ _ _ _
        refine f_step 3 (by kernel_rfl) rfl (fun c a a' w h => by obtain ⟨_, v, hv, _⟩ := h; cases hv) (hS.ext.get hb1) (fun w hS => (yMove rfl)) ?_
        refine f_step 4 (by kernel_rfl) rfl (fun c a a' w h => by obtain ⟨_, v, hv, _⟩ := h; cases hv) (hS.ext.get hb1) (fun w hS => (yExt rfl rfl)) ?_
        refine f_step 5 (by kernel_rfl) rfl (fun c a a' w h => by obtain ⟨_, v, hv, _⟩ := h; cases hv) (hS.ext.get hb1) (fun w hS => (yExt rfl rfl)) ?_
        refine f_step 6 (by kernel_rfl) rfl (fun c a a' w h => by obtain ⟨_, v, hv, _⟩ := h; cases hv) (hS.ext.get hb1) (fun w hS => (yExt rfl rfl)) ?_
        refine f_step 7 (by kernel_rfl) rfl (fun c a a' w h => by obtain ⟨_, v, hv, _⟩ := h; cases hv) (hS.ext.get hb1) (fun w hS => (yAsg rfl)) ?_
        refine f_step 8 (by kernel_rfl) rfl (fun c a a' w h => by obtain ⟨_, v, hv, _⟩ := h; cases hv) (hS.ext.get hb1) (fun w hS => (yAsg rfl)) ?_
        refine f_step 9 (by kernel_rfl) rfl (fun c a a' w h => by obtain ⟨_, v, hv, _⟩ := h; cases hv) (hS.ext.get hb1) (fun w hS => (yAsg rfl)) ?_
        refine a_end (by kernel_rfl) ?_
        show Code.wp _ _ _ _ _
        refine seq ?_
        refine cutK (fun f => f 22 = mv ∧ f 4 = .int .i64 0 ∧ f 23 = .int .i64 0 ∧ f 24 = .int .i64 0 ∧ f 7 = .int .i64 0 ∧ f 25 = .int .i64 1 ∧ f 26 = .int .i64 2 ∧ f 17 = .int .i64 0 ∧ True) ⟨h22, h4, h23, h24, h7, rfl, rfl, rfl, trivial⟩ ?_
        rintro f ⟨h22, h4, h23, h24, h7, h25, h26, h17, -⟩
        refine region ?_
        refine sv (yMove h4) ?_
        refine sv (yEql rfl rfl) ?_
        refine sv (yMove rfl) ?_
        refine ungo rfl rfl rfl ?_
        refine sv (yMove h7) ?_
        refine ungo rfl rfl rfl ?_
        refine sv (yEql rfl rfl) ?_
        refine sv (yAnd rfl (fun hB => rfl) rfl) ?_
        refine sv (yMove rfl) ?_
        refine ungo rfl rfl rfl ?_
        refine sv (yMove h17) ?_
        refine ungo rfl rfl rfl ?_
        refine sv (yEql rfl rfl) ?_
        refine sv (yAnd rfl (fun hB => rfl) rfl) ?_
        refine sv (yMove rfl) ?_
        refine ungo rfl rfl rfl ?_
        refine sv (yMove h22) ?_
        refine ungo rfl rfl rfl ?_
        refine scall Tryz.call43 .nil c_Log ?_
        rintro lg3 w ⟨hL3, hE⟩; replace hS := hS.step hE; clear hE
        refine ungo rfl rfl rfl ?_
        refine scall Tryz.call35 (.cons rfl (.cons rfl .nil)) (c_Msgs (sl_msgs (hS.row mv) rfl (by decide)) hL3) ?_
        rw [decide_eq_true rfl]
        rintro _ w ⟨rfl, hE⟩; replace hS := hS.step hE; clear hE
        refine sv (yAnd rfl (fun hB => rfl) rfl) ?_
        refine sv (yMove rfl) ?_
        refine ungo rfl rfl rfl ?_
        refine sv (yMove h23) ?_
        refine ungo rfl rfl rfl ?_
        refine sv (yEql rfl rfl) ?_
        refine sv (yAnd rfl (fun hB => rfl) rfl) ?_
        refine sv (yMove rfl) ?_
        refine ungo rfl rfl rfl ?_
        refine sv (yMove h24) ?_
        refine ungo rfl rfl rfl ?_
        refine sv (yEql rfl rfl) ?_
        refine sv (yAnd rfl (fun hB => rfl) rfl) ?_
        refine sv (yMove rfl) ?_
        refine ungo rfl rfl rfl ?_
        refine sv (yMove h25) ?_
        refine ungo rfl rfl rfl ?_
        refine sv (yEql rfl rfl) ?_
        refine sv (yAnd rfl (fun hB => rfl) rfl) ?_
        refine sv (yMove rfl) ?_
        refine ungo rfl rfl rfl ?_
        refine sv (yMove h26) ?_
        refine ungo rfl rfl rfl ?_
        refine sv (yEql rfl rfl) ?_
        refine sv (yAnd rfl (fun hB => rfl) rfl) ?_
        refine sv (yMove rfl) ?_
        refine ungo rfl rfl rfl ?_
        refine scall Tryz.call20 .nil (c_Awake (hg2.ext hS.ext)) ?_
        rintro _ w ⟨rfl, hE⟩; replace hS := hS.step hE; clear hE
        refine sv (yAnd rfl (fun hB => rfl) rfl) ?_
        refine sv (yAsg rfl) ?_
        refine nil ?_
        show Code.wp _ _ _ _ _
        refine wp_ret ?_
        exact retV (res1 rfl rfl) (hE2.trans hS.ext)
end Go.Proofs.YtmoilbakmlekbaaGreatDoor

/- part Laid -/
namespace Go.Proofs.YtmoilbakmlekbaaGreatDoor
open Go Bx Go.ChangeShapes Go.WideShapes Go.RowKit
theorem laidEt : Tryz.prog.globalNamed "errors.errorType" = some 0 := by kernel_rfl
theorem laidRt : (Tryz.prog.cutTypes.find? (·.1 == "internal/reflectlite.rtype")).map (·.2) = some 217 := by kernel_rfl
theorem laidOne : ((List.range 309).filter fun t => Tryz.prog.rowNamed t [101, 114, 114, 111, 114]) = [120] := by kernel_rfl
theorem laidSize : Tryz.prog.types.size = 309 := by kernel_rfl
theorem glb_of_laid {W : World} (h : laidMetH Tryz.prog [("errors.errorType", Rows.laid_errors_errorType)] W) : Glb W := by
  have h' : laidMet Tryz.prog [] W ∧ handlesMet Tryz.prog [("errors.errorType", Rows.laid_errors_errorType)] W := h
  obtain ⟨name, u, ty, e1, e2, e3, e4, e5⟩ := h'.2 _ (List.mem_singleton.2 rfl)
  have en : name = [101, 114, 114, 111, 114] := (Option.some.inj e1).symm
  subst en
  obtain rfl := Option.some.inj (laidRt.symm.trans e2)
  have hm : ty ∈ (List.range 309).filter fun t => Tryz.prog.rowNamed t [101, 114, 114, 111, 114] := List.mem_filter.2 ⟨List.mem_range.2 (by rw [← laidSize]; exact e3), e4⟩
  rw [laidOne] at hm
  obtain rfl := List.mem_singleton.1 hm
  have hh : typeHandle Tryz.prog 120 = .pointer (some ⟨1, 120, none⟩) := by kernel_rfl
  rw [hh] at e5
  simpa [Glb] using World.var?_cell laidEt e5 0
noncomputable def laidWorld (os : Os) : World :=
  let w0 := World.holding Tryz.prog os ⟨#[], #[], []⟩
  { w0 with heap := w0.heap.modify 0 fun
      | .cells _ t frozen => .cells #[.iface 217 (.agg #[.pointer (some ⟨1, 120, none⟩)])] t frozen
      | o => o }
theorem laidWorld_met (os : Os) (args : Array Value) : laidMetH Tryz.prog [("errors.errorType", Rows.laid_errors_errorType)] ((laidWorld os).forCall (fun _ _ => 0) ⟨#[], args, []⟩).memory :=
  laidMetH_of_parts (laidMet_nil _ _) (by kernel_rfl)
end Go.Proofs.YtmoilbakmlekbaaGreatDoor

