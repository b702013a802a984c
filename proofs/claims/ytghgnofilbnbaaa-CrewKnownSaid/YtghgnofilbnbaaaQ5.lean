/- Merged texts, part 5. -/
import Derived.Test.YtghgnofilbnbaaaQ4
import Derived.Laws.BitsLemmas
set_option linter.all false
/- part C20 -/
namespace Bx
open Go Go.RowKit
def winF (c : Crew) (s : Scr) : List (Int × Int) := if (scriptF c s).2 ≠ 0 then [] else winL s.steps
theorem winF_bad {c : Crew} {s : Scr} (h : (scriptF c s).2 ≠ 0) : winF c s = [] := if_pos h
theorem winF_ok {c : Crew} {s : Scr} (h : (scriptF c s).2 = 0) : winF c s = winL s.steps := if_neg (not_not_intro h)
theorem pC_len (p : Int × Int) : (pC p).length = 2 := rfl
def RPr (_ : World) (cs : List Value) (p : Int × Int) : Prop := cs = pC p ∧ True
theorem RPr.stays : Stays RPr := fun _ _ _ _ _ h => h
theorem sl_prs {w : World} {e : TypeId} {v : Value} {n : Nat} {l : List (Int × Int)} (h : w.ownsRow 0 e 2 v n (l.flatMap pC)) (hn : l.length = n) : Sl w 2 RPr v l := by
  subst hn
  exact row_sl pC_len h (fun _ _ => trivial)
theorem getD_mem {α : Type} {l : List α} {i : Nat} {d : α} : l.getD i d ∈ l ∨ l.getD i d = d := by
  rw [List.getD_eq_getElem?_getD]
  cases h : l[i]? with
  | none => exact .inr rfl
  | some y => exact .inl (List.mem_of_getElem? h)
theorem winL_bd {c : Crew} {ss : List Stp} (h : ∀ (j : Nat) y, ss[j]? = some y → StpOk c j y) : ∀ k, k ≤ ss.length → ∀ y ∈ winL (ss.take k), (0 ≤ y.1 ∧ y.1 ≤ 240 * (k : Int)) ∧ 0 ≤ y.2 ∧ y.2 ≤ 240 * (k : Int)
  | 0, _ => fun y hy => (List.not_mem_nil (a := y) (by simpa [winL] using hy)).elim
  | k + 1, hk => fun y hy => by
    have ih := winL_bd h k (by omega)
    have hx := List.getElem?_eq_getElem (show k < ss.length by omega)
    rw [winL_take hx] at hy
    rcases List.mem_append.1 hy with hy | hy
    · have := ih y hy; omega
    · rw [List.mem_singleton.1 hy]
      have hs := h k _ hx
      have h1 := hs.most
      have h2 := hs.least
      unfold winS
      split
      · rcases getD_mem (l := winL (ss.take k)) (i := (ss[k]).after.toNat) (d := ((0 : Int), (0 : Int))) with hm | hm
        · have := ih _ hm
          dsimp only
          omega
        · rw [hm]
          dsimp only
          omega
      · dsimp only
        omega
theorem winL_pre (ss : List Stp) : ∀ k, k ≤ ss.length → winL (ss.take k) = (winL ss).take k := by
  have key : ∀ d k, k + d = ss.length → ∃ r, winL ss = winL (ss.take k) ++ r := by
    intro d
    induction d with
    | zero => intro k hk; exact ⟨[], by rw [List.append_nil, List.take_of_length_le (by omega)]⟩
    | succ d ih =>
      intro k hk
      obtain ⟨r, hr⟩ := ih (k + 1) (by omega)
      rw [winL_take (List.getElem?_eq_getElem (show k < ss.length by omega))] at hr
      exact ⟨_, by rw [hr, List.append_assoc]⟩
  intro k hk
  obtain ⟨r, hr⟩ := key (ss.length - k) k (by omega)
  rw [hr, List.take_left']
  rw [winL_len, List.length_take]; omega
theorem winL_get {ss : List Stp} {k : Nat} {x : Stp} (h : ss[k]? = some x) : (winL ss)[k]? = some (winS ((winL ss).take k) x) := by
  have hk := (List.getElem?_eq_some_iff.1 h).1
  have h1 := winL_take h
  rw [winL_pre ss (k + 1) (by omega), winL_pre ss k (by omega)] at h1
  have h2 : ((winL ss).take (k + 1))[k]? = some (winS ((winL ss).take k) x) := by
    rw [h1, List.getElem?_append_right (by rw [List.length_take]; omega), List.length_take, winL_len, Nat.min_eq_left (by omega), Nat.sub_self]
    rfl
  rwa [List.getElem?_take, if_pos (by omega)] at h2
/-! ### what is allowed -/
structure AllowP (c : Crew) (s : Scr) (start : Int) (l : List Int) : Prop where
  len : l.length = s.steps.length
  at_ : ∀ (i : Nat) x y, s.steps[i]? = some x → l[i]? = some y → (ableF c x.kind y).2.2 = 0 ∧ befP start l x + x.least ≤ y ∧ y ≤ befP start l x + x.most
theorem ableE_ok {c : Crew} {k m : Int} (hc : (checkC c).2.2 = 0) (hk : 0 ≤ k ∧ k < c.kinds.length) (hm : 0 ≤ m ∧ m ≤ 100000) : ableE c k m = 0 := by
  unfold ableE
  rw [if_neg (not_not_intro hc), if_neg (by rw [Bool.not_eq_true, outB_false]; omega), if_neg (by rw [Bool.not_eq_true, neverB, outB_false]; exact hm)]
theorem ableF_iff {c : Crew} {k m : Int} (hc : (checkC c).2.2 = 0) (hk : 0 ≤ k ∧ k < c.kinds.length) : (ableF c k m).2.2 = 0 ↔ (!neverB m && ableB c (kndAt c k) m) = true := by
  by_cases hm : 0 ≤ m ∧ m ≤ 100000
  · have hE := ableE_ok hc hk hm
    have hn : neverB m = false := by rw [neverB, outB_false]; exact hm
    rw [hn]
    unfold ableB
    cases hp : pairsL c (kndAt c k) m with
    | nil => rw [ableF_nil hE hp]; simp
    | cons p l => rw [ableF_cons hE hp]; simp
  · have hn : neverB m = true := by
      cases hb : neverB m with
      | true => rfl
      | false => rw [neverB, outB_false] at hb; exact absurd hb hm
    have hE : ableE c k m = 7 := by
      unfold ableE
      rw [if_neg (not_not_intro hc), if_neg (by rw [Bool.not_eq_true, outB_false]; omega), if_pos hn]
    rw [ableF_e hE (by decide), hn]
    simp
theorem ableF_min {c : Crew} {k m : Int} (hc : (checkC c).2.2 = 0) (hk : 0 ≤ k ∧ k < c.kinds.length) (h : (ableF c k m).2.2 = 0) : 0 ≤ m ∧ m ≤ 100000 := by
  rw [ableF_iff hc hk, Bool.and_eq_true, Bool.not_eq_true', neverB, outB_false] at h
  exact h.1
theorem firstIn_le {p : Int → Bool} {lo hi v : Int} (h1 : lo ≤ v) (h2 : v ≤ hi) (hp : p v = true) : lo ≤ firstIn p lo hi ∧ firstIn p lo hi ≤ v ∧ p (firstIn p lo hi) = true := by
  unfold firstIn
  cases hf : (List.range (hi - lo + 1).toNat).find? (fun (j : Nat) => p (lo + (j : Int))) with
  | none =>
    rw [List.find?_eq_none] at hf
    have := hf (v - lo).toNat (List.mem_range.2 (by omega))
    rw [show lo + (((v - lo).toNat : Nat) : Int) = v by omega] at this
    exact absurd hp this
  | some j =>
    rw [List.find?_range_eq_some] at hf
    refine ⟨by dsimp only; omega, ?_, hf.1⟩
    rcases Nat.lt_or_ge (v - lo).toNat j with h | h
    · have := hf.2.2 _ h
      rw [show lo + (((v - lo).toNat : Nat) : Int) = v by omega, hp] at this
      cases this
    · dsimp only; omega
theorem crew_of {c : Crew} {s : Scr} (h : (scriptF c s).2 = 0) : (checkC c).2.2 = 0 := by
  unfold scriptF at h
  split at h
  · rename_i h1; exact absurd h h1
  · rename_i h1; exact Classical.not_not.1 h1
theorem baseP_iff {c : Crew} {s : Scr} {st : Nat} {m : Int} {x : Stp} (hs : (scriptF c s).2 = 0) (hx : s.steps[st]? = some x) : baseP c s st m = true ↔ (ableF c x.kind m).2.2 = 0 := by
  rw [ableF_iff (crew_of hs) ((scrOk_of hs).steps st x hx).kind]
  unfold baseP
  rw [stpAt_hit hx]
theorem canS_base {c : Crew} {s : Scr} {st : Nat} {m : Int} (hok : ScrOk c s) (h : st < s.steps.length) (hc : canS c s st m = true) : baseP c s st m = true := by
  rw [canS_eq hok.steps h, Bool.and_eq_true] at hc
  exact hc.1
theorem canS_next {c : Crew} {s : Scr} {st k : Nat} {m : Int} {x : Stp} (hok : ScrOk c s) (h : st < s.steps.length) (hc : canS c s st m = true) (hx : s.steps[k]? = some x) (ha : x.after = st) : 0 ≤ firstP c s k m := by
  rw [canS_eq hok.steps h, Bool.and_eq_true, List.all_eq_true] at hc
  have := hc.2 k (List.mem_range.2 (List.getElem?_eq_some_iff.1 hx).1)
  rw [stpAt_hit hx, ha, Bool.or_eq_true] at this
  rcases this with h | h
  · simp at h
  · exact of_decide_eq_true h
theorem canS_mk {c : Crew} {s : Scr} {st : Nat} {m : Int} (hok : ScrOk c s) (h : st < s.steps.length) (hb : baseP c s st m = true) (hn : ∀ (k : Nat) x, s.steps[k]? = some x → x.after = st → 0 ≤ firstP c s k m) : canS c s st m = true := by
  rw [canS_eq hok.steps h, Bool.and_eq_true, List.all_eq_true]
  refine ⟨hb, fun k hk => ?_⟩
  have hx := List.getElem?_eq_getElem (List.mem_range.1 hk)
  rw [stpAt_hit hx, Bool.or_eq_true]
  by_cases ha : (s.steps[k]'(List.mem_range.1 hk)).after = (st : Int)
  · exact .inr (decide_eq_true (hn k _ hx ha))
  · exact .inl (decide_eq_true ha)
theorem firstP_le {c : Crew} {s : Scr} {k : Nat} {x : Stp} {b v : Int} (hx : s.steps[k]? = some x) (h1 : b + x.least ≤ v) (h2 : v ≤ b + x.most) (hc : canS c s k v = true) : b + x.least ≤ firstP c s k b ∧ firstP c s k b ≤ v := by
  have hxa := stpAt_hit hx
  unfold firstP
  rw [hxa]
  obtain ⟨a, b, _⟩ := firstIn_le h1 h2 hc
  exact ⟨a, b⟩
theorem firstP_in {c : Crew} {s : Scr} {k : Nat} {x : Stp} {b : Int} (hx : s.steps[k]? = some x) (h : 0 ≤ firstP c s k b) : b + x.least ≤ firstP c s k b ∧ firstP c s k b ≤ b + x.most ∧ canS c s k (firstP c s k b) = true := by
  have hxa := stpAt_hit hx
  unfold firstP at h ⊢
  rw [hxa] at h ⊢
  obtain ⟨j, e, h1, h2, _⟩ := firstIn_spec (.inl h)
  rw [e]
  exact ⟨by omega, h1, h2⟩
theorem befP_at {start : Int} {l : List Int} {x : Stp} {a : Nat} {v : Int} (ha : x.after = a) (hv : l[a]? = some v) : befP start l x = v := by
  unfold befP
  rw [if_pos (by omega), ha, Int.toNat_natCast]
  exact getD_hit hv
theorem befP_neg {start : Int} {l : List Int} {x : Stp} (ha : x.after < 0) : befP start l x = start := if_neg (by omega)
theorem befP_app {start : Int} {l r : List Int} {x : Stp} (ha : x.after < l.length) : befP start (l ++ r) x = befP start l x := by
  unfold befP
  split
  · rw [List.getD_eq_getElem?_getD, List.getD_eq_getElem?_getD, List.getElem?_append_left (by omega)]
  · rfl
theorem allow_can {c : Crew} {s : Scr} {start : Int} {l : List Int} (hs : (scriptF c s).2 = 0) (h : AllowP c s start l) : ∀ (d st : Nat) (v : Int), l[st]? = some v → s.steps.length - st ≤ d → canS c s st v = true := by
  have hok := scrOk_of hs
  intro d
  induction d using Nat.strongRecOn with
  | _ D ih =>
    intro st v hv hd
    have hlt : st < s.steps.length := by rw [← h.len]; exact (List.getElem?_eq_some_iff.1 hv).1
    have hx := List.getElem?_eq_getElem hlt
    obtain ⟨h1, _, _⟩ := h.at_ st _ v hx hv
    refine canS_mk hok hlt ((baseP_iff hs hx).2 h1) (fun k y hy ha => ?_)
    have hky := (List.getElem?_eq_some_iff.1 hy).1
    have hsk := hok.steps k y hy
    have hak := hsk.after
    have hl := hsk.least
    obtain ⟨u, hu⟩ : ∃ u, l[k]? = some u := ⟨_, List.getElem?_eq_getElem (by rw [h.len]; exact hky)⟩
    obtain ⟨g1, g2, g3⟩ := h.at_ k y u hy hu
    rw [befP_at ha hv] at g2 g3
    have hcu := ih (D - 1) (by omega) k u hu (by omega)
    have hvm := ableF_min (crew_of hs) (hok.steps st _ hx).kind h1
    have := firstP_le hy g2 g3 hcu
    omega
/-! ### the plan -/
def GoodP (c : Crew) (s : Scr) (start : Int) (l : List Int) : Prop := ∀ (i : Nat) x y, s.steps[i]? = some x → l[i]? = some y → y = firstP c s i (befP start l x) ∧ 0 ≤ y
theorem good_snoc {c : Crew} {s : Scr} {start : Int} {l : List Int} {x : Stp} (hok : ScrOk c s) (h : GoodP c s start l) (hx : s.steps[l.length]? = some x) (h0 : 0 ≤ firstP c s l.length (befP start l x)) : GoodP c s start (l ++ [firstP c s l.length (befP start l x)]) := by
  intro i y z hy hz
  have hay := (hok.steps i y hy).after
  by_cases hi : i < l.length
  · rw [List.getElem?_append_left hi] at hz
    rw [befP_app (by omega)]
    exact h i y z hy hz
  · have hl := (List.getElem?_eq_some_iff.1 hz).1
    rw [List.length_append, List.length_singleton] at hl
    obtain rfl : i = l.length := by omega
    rw [List.getElem?_append_right (Nat.le_refl _), Nat.sub_self] at hz
    obtain rfl : firstP c s l.length (befP start l x) = z := by simpa using hz
    obtain rfl : x = y := Option.some.inj (hx.symm.trans hy)
    rw [befP_app (by omega)]
    exact ⟨rfl, h0⟩
theorem planR_spec {c : Crew} {s : Scr} {start : Int} (hok : ScrOk c s) : ∀ (r : List Stp) (i : Nat) (l : List Int), r = s.steps.drop i → l.length = i → i ≤ s.steps.length → GoodP c s start l →
    (∀ p, planR c s start r i l = some p → GoodP c s start p ∧ p.length = s.steps.length) ∧ (planR c s start r i l = none → ∃ pre x, GoodP c s start pre ∧ s.steps[pre.length]? = some x ∧ firstP c s pre.length (befP start pre x) < 0)
  | [], i, l, hr, hl, hi, hg => by
    have : s.steps.length ≤ i := by
      have := congrArg List.length hr
      rw [List.length_drop, List.length_nil] at this
      omega
    refine ⟨fun p hp => ?_, fun hn => by cases hn⟩
    obtain rfl : l = p := by simpa [planR] using hp
    exact ⟨hg, by omega⟩
  | x :: r, i, l, hr, hl, hi, hg => by
    have hlt : i < s.steps.length := by
      have := congrArg List.length hr
      rw [List.length_drop, List.length_cons] at this
      omega
    have hd := List.drop_eq_getElem_cons hlt
    rw [← hr] at hd
    obtain ⟨e1, e2⟩ := List.cons.inj hd
    have hx : s.steps[i]? = some x := by rw [e1]; exact List.getElem?_eq_getElem hlt
    rw [planR_cons]
    subst hl
    split
    · rename_i h0
      exact ⟨fun p hp => (by cases hp), fun _ => ⟨l, x, hg, hx, h0⟩⟩
    · rename_i h0
      exact planR_spec hok r (l.length + 1) _ e2 (by simp) (by omega) (good_snoc hok hg hx (by omega))
theorem good_nil (c : Crew) (s : Scr) (start : Int) : GoodP c s start [] := fun i x y _ h => by simp at h
theorem good_allow {c : Crew} {s : Scr} {start : Int} {p : List Int} (hs : (scriptF c s).2 = 0) (h : GoodP c s start p) (hl : p.length = s.steps.length) : AllowP c s start p := by
  refine ⟨hl, fun i x y hx hy => ?_⟩
  obtain ⟨e, h0⟩ := h i x y hx hy
  have hlt := (List.getElem?_eq_some_iff.1 hx).1
  obtain ⟨a, b, d⟩ := firstP_in hx (e ▸ h0)
  rw [← e] at a b d
  exact ⟨(baseP_iff hs hx).1 (canS_base (scrOk_of hs) hlt d), a, b⟩
theorem good_first {c : Crew} {s : Scr} {start : Int} {l p : List Int} (hs : (scriptF c s).2 = 0) (hl : AllowP c s start l) (hp : GoodP c s start p) {i : Nat} {y z : Int} (he : ∀ j, j < i → l[j]? = p[j]?) (hy : l[i]? = some y) (hz : p[i]? = some z) : z ≤ y := by
  have hlt : i < s.steps.length := by rw [← hl.len]; exact (List.getElem?_eq_some_iff.1 hy).1
  have hx := List.getElem?_eq_getElem hlt
  obtain ⟨e, h0⟩ := hp i _ z hx hz
  obtain ⟨_, g2, g3⟩ := hl.at_ i _ y hx hy
  have hc := allow_can hs hl _ i y hy (Nat.le_refl _)
  have hbe : befP start l (s.steps[i]) = befP start p (s.steps[i]) := by
    have ha := ((scrOk_of hs).steps i _ hx).after
    unfold befP
    split
    · rw [List.getD_eq_getElem?_getD, List.getD_eq_getElem?_getD, he _ (by omega)]
    · rfl
  rw [hbe] at g2 g3
  rw [e]
  exact (firstP_le hx g2 g3 hc).2
theorem good_stop {c : Crew} {s : Scr} {start : Int} {l pre : List Int} {x : Stp} (hs : (scriptF c s).2 = 0) (h0 : 0 ≤ start) (hl : AllowP c s start l) (hp : GoodP c s start pre) (hx : s.steps[pre.length]? = some x) (hn : firstP c s pre.length (befP start pre x) < 0) : False := by
  have hok := scrOk_of hs
  have hsx := hok.steps _ x hx
  have ha := hsx.after
  have hlx := hsx.least
  have hlt := (List.getElem?_eq_some_iff.1 hx).1
  by_cases hneg : x.after < 0
  · obtain ⟨y, hy⟩ : ∃ y, l[pre.length]? = some y := ⟨_, List.getElem?_eq_getElem (by rw [hl.len]; exact hlt)⟩
    obtain ⟨_, g2, g3⟩ := hl.at_ _ x y hx hy
    rw [befP_neg hneg] at g2 g3 hn
    have := firstP_le hx g2 g3 (allow_can hs hl _ _ y hy (Nat.le_refl _))
    omega
  · obtain ⟨a, hae⟩ := Int.eq_ofNat_of_zero_le (show 0 ≤ x.after by omega)
    have hal : a < pre.length := by omega
    have hv := List.getElem?_eq_getElem hal
    have hxa := List.getElem?_eq_getElem (show a < s.steps.length by omega)
    obtain ⟨e, hv0⟩ := hp a _ _ hxa hv
    have hca := (firstP_in hxa (e ▸ hv0)).2.2
    rw [← e] at hca
    have := canS_next hok (by omega) hca hx hae
    rw [befP_at hae hv] at hn
    omega
theorem plan_ok {c : Crew} {s : Scr} {start : Int} (h : planE c s start = 0) : (scriptF c s).2 = 0 ∧ (0 ≤ start ∧ start ≤ 100000) ∧ GoodP c s start (planL c s start) ∧ (planL c s start).length = s.steps.length := by
  unfold planE at h
  split at h
  · rename_i h1; exact absurd h h1
  rename_i h1
  have h1 := Classical.not_not.1 h1
  split at h
  · cases h
  rename_i h2
  have hm : 0 ≤ start ∧ start ≤ 100000 := by rw [Bool.not_eq_true, neverB, outB_false] at h2; exact h2
  refine ⟨h1, hm, ?_⟩
  have hsp := planR_spec (start := start) (scrOk_of h1) s.steps 0 [] rfl rfl (Nat.zero_le _) (good_nil c s start)
  cases hp : planR c s start s.steps 0 [] with
  | none => rw [hp] at h; cases h
  | some l =>
    obtain ⟨_, e⟩ := planE_some h1 (by rw [neverB, outB_false]; exact hm) hp
    rw [e]
    exact hsp.1 l hp
theorem plan_down {c : Crew} {s : Scr} {start : Int} (hs : (scriptF c s).2 = 0) (h : planE c s start = 9) : (0 ≤ start ∧ start ≤ 100000) ∧ ∀ l, ¬ AllowP c s start l := by
  unfold planE at h
  rw [if_neg (not_not_intro hs)] at h
  split at h
  · cases h
  rename_i h2
  have hm : 0 ≤ start ∧ start ≤ 100000 := by rw [Bool.not_eq_true, neverB, outB_false] at h2; exact h2
  refine ⟨hm, fun l hl => ?_⟩
  have hsp := planR_spec (start := start) (scrOk_of hs) s.steps 0 [] rfl rfl (Nat.zero_le _) (good_nil c s start)
  cases hp : planR c s start s.steps 0 [] with
  | some l => rw [hp] at h; cases h
  | none =>
    obtain ⟨pre, x, g1, g2, g3⟩ := hsp.2 hp
    exact good_stop hs hm.1 hl g1 g2 g3
theorem good_win {c : Crew} {s : Scr} {start : Int} {p : List Int} (hs : (scriptF c s).2 = 0) (h : GoodP c s start p) : ∀ (i : Nat) y w, p[i]? = some y → (winL s.steps)[i]? = some w → start + w.1 ≤ y ∧ y ≤ start + w.2 := by
  intro i
  induction i using Nat.strongRecOn with
  | _ i ih =>
    intro y w hy hw
    have hlt : i < s.steps.length := by have := (List.getElem?_eq_some_iff.1 hw).1; rwa [winL_len] at this
    have hx := List.getElem?_eq_getElem hlt
    rw [winL_get hx] at hw
    obtain rfl := Option.some.inj hw
    obtain ⟨e, h0⟩ := h i _ y hx hy
    obtain ⟨a, b, _⟩ := firstP_in hx (e ▸ h0)
    rw [← e] at a b
    have hax := ((scrOk_of hs).steps i _ hx).after
    by_cases hneg : (s.steps[i]).after < 0
    · rw [befP_neg hneg] at a b
      unfold winS
      rw [if_neg (by omega)]
      dsimp only
      omega
    · obtain ⟨q, hq⟩ := Int.eq_ofNat_of_zero_le (show 0 ≤ (s.steps[i]).after by omega)
      have hpl : q < p.length := by have := (List.getElem?_eq_some_iff.1 hy).1; omega
      have hv := List.getElem?_eq_getElem hpl
      have hwq := List.getElem?_eq_getElem (show q < (winL s.steps).length by rw [winL_len]; omega)
      have ihq := ih q (by omega) _ _ hv hwq
      rw [befP_at hq hv] at a b
      unfold winS
      rw [if_pos (by omega)]
      have hg : ((winL s.steps).take i).getD (s.steps[i]).after.toNat (0, 0) = (winL s.steps)[q]'(by rw [winL_len]; omega) := by
        rw [hq, Int.toNat_natCast]
        exact getD_hit (by rw [List.getElem?_take, if_pos (by omega)]; exact hwq)
      rw [hg]
      dsimp only
      omega
end Bx
namespace Bx
open Go Go.RowKit
theorem winS_yes {l : List (Int × Int)} {x : Stp} {a : Nat} {y : Int × Int} (ha : x.after = a) (hy : l[a]? = some y) : winS l x = (x.least + y.1, x.most + y.2) := by
  unfold winS
  rw [if_pos (by omega), ha, Int.toNat_natCast, getD_hit hy]
theorem winS_no {l : List (Int × Int)} {x : Stp} (ha : ¬ 0 ≤ x.after) : winS l x = (x.least, x.most) := if_neg ha
/-- A script, a start, acts. -/
structure Drl where
  script : Scr
  start : Int
  acts : List Acn
def RDrl (w : World) (cs : List Value) (d : Drl) : Prop := ∃ sv av, cs = [.string d.script.name, sv, .int .i64 d.start, av] ∧ d.script.name.size ≤ 9223372036854775807 ∧ Sl w 5 RStp sv d.script.steps ∧ I64 d.start ∧ Sl w 6 RAct av d.acts
theorem first_bad {c : Crew} {s : Scr} {start : Int} (h : (planE c s start ≠ 0 ∧ planE c s start ≠ 9) ∨ (scriptF c s).2 ≠ 0) : planE c s start ≠ 0 := by
  rcases h with h | h
  · exact h.1
  · rw [(planE_bad h).1]; exact h
theorem good_bd {c : Crew} {s : Scr} {start : Int} {p : List Int} (hs : (scriptF c s).2 = 0) (h : GoodP c s start p) (hl : p.length = s.steps.length) : ∀ y ∈ p, 0 ≤ y ∧ y ≤ 100000 := by
  intro y hy
  obtain ⟨i, hi, rfl⟩ := List.getElem_of_mem hy
  have hx := List.getElem?_eq_getElem (show i < s.steps.length by omega)
  exact ableF_min (crew_of hs) ((scrOk_of hs).steps i _ hx).kind ((good_allow hs h hl).at_ i _ _ hx (List.getElem?_eq_getElem hi)).1
theorem plan_start {c : Crew} {s : Scr} {start : Int} (hs : (scriptF c s).2 = 0) (h : planE c s start = 0 ∨ planE c s start = 9) : 0 ≤ start ∧ start ≤ 100000 := by
  rcases h with h | h
  · exact (plan_ok h).2.1
  · exact (plan_down hs h).1
end Bx
/- part Ck32 -/
namespace Go.Proofs.Ytghgnofilbnbaaa
open Go Bx
set_option maxHeartbeats 4000000 in
/-- barrage/crew.Windows -/
theorem c_Windows {c : Crew} {cs ss : List Value} {s : Scr} {w0 : World} (h : RCrew w0 cs c) (hs : RScr w0 ss s) : CE Try.prog 25 #[.agg cs.toArray, .agg ss.toArray] w0 (fun u w' => ∃ lv, u = .tuple #[lv, .int .i64 (scriptF c s).2] ∧ St w0 w' [rowI lv 86 2 (winF c s).length ((winF c s).flatMap pC)]) := by
  obtain ⟨ov, kv, nv, rfl, hso, hsk, hsn, hrm⟩ := id h
  obtain ⟨a, cap, rfl, hcap, hmx, hel⟩ := id hso
  obtain ⟨sv, rfl, hsz, hst⟩ := id hs
  obtain ⟨ax, cps, rfl, hscap, hsmx, hels⟩ := id hst
  refine enter Try.func25 rfl Try.ntmps25 rfl ?_
  have hS := St.start w0
  refine seq ?_
  refine region ?_
  refine sbox hS rfl rfl ?_; clear hS; intro b2 w hS
  refine sbox hS rfl rfl ?_; clear hS; intro b3 w hS
  refine sv (yAsg rfl) ?_
  refine sv (yAsg rfl) ?_
  refine nil ?_
  show Code.wp _ _ _ _ _
  refine seq ?_
  refine seq ?_
  refine region ?_
  refine sv (yLdBA rfl Try.isAgg26 Try.sizeOf26 (hS.at _) rfl rfl) ?_
  refine sv (yLdBA rfl Try.isAgg29 Try.sizeOf29 (hS.at _) rfl rfl) ?_
  refine scall Try.call23 (.cons rfl (.cons rfl .nil)) (c_CheckScript (h.ext hS.ext) (hs.ext hS.ext)) ?_
  rintro _ w ⟨rfl, hE⟩; replace hS := hS.step hE; clear hE
  refine sv (yMove rfl) ?_
  refine sv (yExt rfl rfl) ?_
  refine sv (yExt rfl rfl) ?_
  refine sv (yAsg rfl) ?_
  refine nil ?_
  show Code.wp _ _ _ _ _
  refine seq ?_
  refine region ?_
  refine sv (yMove rfl) ?_
  refine sv (yNeq rfl rfl) ?_
  refine nil ?_
  show Code.wp _ _ _ _ _
  refine cond rfl (fun c16 => ?_) (fun c16 => ?_)
  ·
    simp only [Bool.and_eq_true, Bool.or_eq_true, Bool.and_eq_false_iff, Bool.or_eq_false_iff, decide_eq_true_eq, decide_eq_false_iff_not, Bool.not_eq_true, Bool.not_eq_false, Bool.not_not, Bool.not_eq_eq_eq_not, Bool.not_true, Bool.not_false, Bool.false_eq_true, Bool.true_eq_false, ne_eq, Decidable.not_not, not_false_eq_true, not_true_eq_false] at c16
    refine seq ?_
    refine region ?_
    refine sv (yMove rfl) ?_
    refine sv (yAsg rfl) ?_
    refine sv (yAsg rfl) ?_
    refine nil ?_
    show Code.wp _ _ _ _ _
    refine wp_ret (thenR ?_)
    refine retQ (res2 rfl rfl rfl) ?_
    exact ⟨_, rfl, by rw [winF_bad c16]; exact (hS.nilrow 86 2).sub (.cons_cons _ (List.nil_sublist _))⟩
  ·
    simp only [Bool.and_eq_true, Bool.or_eq_true, Bool.and_eq_false_iff, Bool.or_eq_false_iff, decide_eq_true_eq, decide_eq_false_iff_not, Bool.not_eq_true, Bool.not_eq_false, Bool.not_not, Bool.not_eq_eq_eq_not, Bool.not_true, Bool.not_false, Bool.false_eq_true, Bool.true_eq_false, ne_eq, Decidable.not_not, not_false_eq_true, not_true_eq_false] at c16
    have hok := scrOk_of c16
    have hlen := hok.len
    refine skip ?_
    show Code.wp _ _ _ _ _
    refine seq ?_
    refine seq ?_
    refine region ?_
    refine sv (fa29_1 rfl) ?_
    refine sv (yLdB rfl Try.isAgg27 (hS.at _) rfl) ?_
    refine sv (yLen rfl Try.underlying27) ?_
    refine sv (yMove rfl) ?_
    refine nil ?_
    show Code.wp _ _ _ _ _
    refine block ?_
    refine loop (fun f w zz => ∃ (k : Nat) (lv : Value), f 4 = lv ∧ f 19 = .slice ax s.steps.length cps ∧ f 20 = .int .i64 (s.steps.length : Int) ∧ f 21 = .int .i64 (k : Int) ∧ StX [] w0 w [rowI lv 86 2 k ((winL (s.steps.take k)).flatMap pC)] ∧ (k ≤ s.steps.length) ∧ zz = s.steps.length - k) _ ⟨_, rfl, 0, _, rfl, rfl, rfl, rfl, ((hS.nilrow 86 2).sub (.cons_cons _ (List.nil_sublist _))), (Nat.zero_le _), rfl⟩ ?_
    clear hS
    rintro f w _ ⟨k, lv, h4, h19, h20, h21, hS, hk, rfl⟩
    refine seq ?_
    refine region ?_
    refine sv (yLss h21 h20) ?_
    refine nil ?_
    show Code.wp _ _ _ _ _
    refine seq ?_
    refine cond rfl (fun c22 => ?_) (fun c22 => ?_)
    ·
      simp only [Bool.and_eq_true, Bool.or_eq_true, Bool.and_eq_false_iff, Bool.or_eq_false_iff, decide_eq_true_eq, decide_eq_false_iff_not, Bool.not_eq_true, Bool.not_eq_false, Bool.not_not, Bool.not_eq_eq_eq_not, Bool.not_true, Bool.not_false, Bool.false_eq_true, Bool.true_eq_false, ne_eq, Decidable.not_not, not_false_eq_true, not_true_eq_false] at c22
      refine skip ?_
      show Code.wp _ _ _ _ _
      refine seq ?_
      refine block ?_
      refine seq ?_
      refine region ?_
      obtain ⟨x, hxq, hdq⟩ := drop_of (l := s.steps) (k := k) (by omega)
      obtain ⟨bq, oq, csq, haq, hlenq, hcsq, hRq⟩ := hels (k) (by omega)
      obtain rfl : x = s.steps[k] := (List.getElem?_eq_some_iff.1 hxq).2.symm
      generalize s.steps[k] = x at hxq hdq hRq
      obtain ⟨rfl, hxi⟩ := hRq
      have hsx := hok.steps k x hxq
      have hx1 := hsx.after
      have hx2 := hsx.most
      have hx3 := hsx.least
      refine sv (yIxa h19 haq h21 Try.runUnderlying27 Try.sizeOf89 (by omega) (by omega)) ?_
      refine sv (yLdA rfl Try.isAgg89 Try.sizeOf89 (hcsq.ext hS.ext) rfl) ?_
      refine salloc hS Try.zeroValue89 rfl ?_; clear hS; intro b7 w hS
      refine sst hS rfl rfl Try.sizeOf89 rfl rfl rfl rfl ?_; clear hS; intro w hS
      refine nil ?_
      show Code.wp _ _ _ _ _
      refine seq ?_
      refine region ?_
      refine sv (fa89_3 rfl) ?_
      refine sv (yLdB rfl Try.isAgg3 (hS.at _) rfl) ?_
      refine sv (fa89_4 rfl) ?_
      refine sv (yLdB rfl Try.isAgg3 (hS.at _) rfl) ?_
      refine sv (yBuild Try.zeroValue86 rfl pl86 (.cons rfl rfl (.cons rfl rfl .nil)) rfl) ?_
      refine salloc hS Try.zeroValue86 rfl ?_; clear hS; intro b8 w hS
      refine sst hS rfl rfl Try.sizeOf86 rfl rfl rfl rfl ?_; clear hS; intro w hS
      refine nil ?_
      show Code.wp _ _ _ _ _
      refine seqJ (n := 59) (fun f w => ∃ (lv : Value), f 4 = lv ∧ f 8 = .pointer (some ⟨b8, 0, none⟩) ∧ f 19 = .slice ax s.steps.length cps ∧ f 20 = .int .i64 (s.steps.length : Int) ∧ f 21 = .int .i64 (k : Int) ∧ StX [] w0 w [blk b8 (pC (winS (winL (s.steps.take k)) x)) 86, blk b7 (stpC x) 89, rowI lv 86 2 k ((winL (s.steps.take k)).flatMap pC)] ∧ True) ?_ ?_
      ·
        refine seq ?_
        refine region ?_
        replace hS : StX [] w0 w (blk b8 [.int .i64 x.least, .int .i64 x.most] 86 :: blk b7 (stpC x) 89 :: rowI lv 86 2 k ((winL (s.steps.take k)).flatMap pC) :: []) := hS
        refine sv (fa89_2 rfl) ?_
        refine sv (yLdB rfl Try.isAgg3 (hS.at _) rfl) ?_
        refine sv (yGeq rfl rfl) ?_
        refine nil ?_
        show Code.wp _ _ _ _ _
        refine cond rfl (fun c32 => ?_) (fun c32 => ?_)
        ·
          simp only [Bool.and_eq_true, Bool.or_eq_true, Bool.and_eq_false_iff, Bool.or_eq_false_iff, decide_eq_true_eq, decide_eq_false_iff_not, Bool.not_eq_true, Bool.not_eq_false, Bool.not_not, Bool.not_eq_eq_eq_not, Bool.not_true, Bool.not_false, Bool.false_eq_true, Bool.true_eq_false, ne_eq, Decidable.not_not, not_false_eq_true, not_true_eq_false] at c32
          refine seq ?_
          refine region_tail mixed 10 (by kernel_rfl) hS ?_
          obtain ⟨g, chl, rfl, -⟩ := row_some (hS.row lv) (by omega)
          obtain ⟨q, hq⟩ := Int.eq_ofNat_of_zero_le c32
          obtain ⟨y, hy, -⟩ := drop_of (l := winL (s.steps.take k)) (k := q) (by rw [winL_len, List.length_take]; omega)
          have hyb := winL_bd hok.steps k (by omega) y (List.mem_of_getElem? hy)
          refine qv (fun w hS => (fa86_0 rfl)) ?_
          refine qv (fun w hS => (yLdB rfl Try.isAgg3 (hS.at _) rfl)) ?_
          refine qv (fun w hS => (yMove h4)) ?_
          refine qv (fun w hS => (fa89_2 rfl)) ?_
          refine qv (fun w hS => (yLdB rfl Try.isAgg3 (hS.at _) rfl)) ?_
          refine qv (fun w hS => (yIx0 rfl (rfl.trans (congrArg (Value.int .i64) hq)) Try.runUnderlying62 Try.sizeOf86 (by omega))) ?_
          refine qv (fun w hS => (fa86_0 rfl)) ?_
          refine qv (fun w hS => (yLd rfl Try.isAgg3 ((flat_cells0 pC_len (row_at (hS.row (.slice (some ⟨g, 0, none⟩) k chl)) rfl (by omega)) hy).at (j := 0) rfl))) ?_
          refine qv (fun w hS => (yAdd rfl rfl ⟨by omega, by omega⟩)) ?_
          refine qv (fun w hS => (fa86_0 rfl)) ?_
          clear hS; refine qtl (fun w hS => ?_)
          refine sst hS rfl rfl Try.sizeOf3 rfl rfl rfl rfl ?_; clear hS; intro w hS
          refine nil ?_
          show Code.wp _ _ _ _ _
          refine region_tail mixed 10 (by kernel_rfl) hS ?_
          refine qv (fun w hS => (fa86_1 rfl)) ?_
          refine qv (fun w hS => (yLdB rfl Try.isAgg3 (hS.at _) rfl)) ?_
          refine qv (fun w hS => (yMove h4)) ?_
          refine qv (fun w hS => (fa89_2 rfl)) ?_
          refine qv (fun w hS => (yLdB rfl Try.isAgg3 (hS.at _) rfl)) ?_
          refine qv (fun w hS => (yIx0 rfl (rfl.trans (congrArg (Value.int .i64) hq)) Try.runUnderlying62 Try.sizeOf86 (by omega))) ?_
          refine qv (fun w hS => (fa86_1 rfl)) ?_
          refine qv (fun w hS => (yLd rfl Try.isAgg3 ((flat_cells0 pC_len (row_at (hS.row (.slice (some ⟨g, 0, none⟩) k chl)) rfl (by omega)) hy).at (j := 1) rfl))) ?_
          refine qv (fun w hS => (yAdd rfl rfl ⟨by omega, by omega⟩)) ?_
          refine qv (fun w hS => (fa86_1 rfl)) ?_
          clear hS; refine qtl (fun w hS => ?_)
          refine sst hS rfl rfl Try.sizeOf3 rfl rfl rfl rfl ?_; clear hS; intro w hS
          refine nil ?_
          exact ⟨_, rfl, _, h4, rfl, h19, h20, h21, (by rw [winS_yes hq hy]; exact hS), trivial⟩
        ·
          simp only [Bool.and_eq_true, Bool.or_eq_true, Bool.and_eq_false_iff, Bool.or_eq_false_iff, decide_eq_true_eq, decide_eq_false_iff_not, Bool.not_eq_true, Bool.not_eq_false, Bool.not_not, Bool.not_eq_eq_eq_not, Bool.not_true, Bool.not_false, Bool.false_eq_true, Bool.true_eq_false, ne_eq, Decidable.not_not, not_false_eq_true, not_true_eq_false] at c32
          refine skip ?_
          exact ⟨_, rfl, _, h4, rfl, h19, h20, h21, (by rw [winS_no (by omega)]; exact hS), trivial⟩
      ·
        clear hS; rintro f w ⟨lv, h4, h8, h19, h20, h21, hS, -⟩
        refine region ?_
        refine sv (yMove h4) ?_
        refine sv (yLdBA h8 Try.isAgg86 Try.sizeOf86 (hS.at _) rfl rfl) ?_
        refine sbslice hS Try.underlying62 Try.sizeOf86 rfl Try.zeroValue86 rfl (.cons rfl rfl .nil) rfl ?_; clear hS; intro b55 w hS
        refine sapp (bytes := 16) (size := 2) (v := lv) (m := 1) hS rfl rfl Try.underlying62 ti86 rfl rfl rfl rfl (by decide) (blk_cells (hS.at _)) rfl rfl (by omega) (by omega) ?_; clear hS; intro v56 w hS
        refine sv (yAsg rfl) ?_
        refine nil ?_
        show Code.wp _ _ _ _ _
        refine region ?_
        refine sv (yAdd h21 rfl ⟨by omega, by omega⟩) ?_
        refine sv (yMove rfl) ?_
        refine nil ?_
        exact ⟨_, _, rfl, ⟨k + 1, v56, rfl, h19, h20, rfl, (by rw [winL_take hxq, List.flatMap_append]; exact hS.sub (.cons _ (.cons _ (.cons _ (List.Sublist.refl _))))), (by omega), rfl⟩, by omega⟩
    ·
      simp only [Bool.and_eq_true, Bool.or_eq_true, Bool.and_eq_false_iff, Bool.or_eq_false_iff, decide_eq_true_eq, decide_eq_false_iff_not, Bool.not_eq_true, Bool.not_eq_false, Bool.not_not, Bool.not_eq_eq_eq_not, Bool.not_true, Bool.not_false, Bool.false_eq_true, Bool.true_eq_false, ne_eq, Decidable.not_not, not_false_eq_true, not_true_eq_false] at c22
      refine exit ?_
      show Code.wp _ _ _ _ _
      refine seq ?_
      refine region ?_
      refine sv (yMove h4) ?_
      refine sv (yAsg rfl) ?_
      refine sv (yAsg rfl) ?_
      refine nil ?_
      show Code.wp _ _ _ _ _
      refine wp_ret ?_
      refine retQ (res2 rfl rfl rfl) ?_
      obtain rfl : k = s.steps.length := by omega
      rw [List.take_length] at hS
      exact ⟨lv, by (rw [c16]; try rfl), by rw [winF_ok c16, winL_len]; exact hS⟩
/-- barrage/barrageref02.Spans -/
theorem c_Spans {la lb : List (Int × Int)} {va vb : Value} {w0 : World} (ha : Sl w0 2 RPr va la) (hb : Sl w0 2 RPr vb lb) : CV Try.prog 27 #[va, vb] w0 (.bool (decide (la = lb))) := by
  obtain ⟨aa, ca, rfl, hca, hma, hela⟩ := ha
  obtain ⟨ab, cb, rfl, hcb, hmb, helb⟩ := hb
  refine enter Try.func27 rfl Try.ntmps27 rfl ?_
  have hS := St.start w0
  refine seq ?_
  refine region ?_
  refine sv (yAsg rfl) ?_
  refine nil ?_
  show Code.wp _ _ _ _ _
  refine seq ?_
  refine seq ?_
  refine region ?_
  refine sv (yMove rfl) ?_
  refine sv (yLen rfl Try.underlying62) ?_
  refine sv (yMove rfl) ?_
  refine sv (yLen rfl Try.underlying62) ?_
  refine sv (yNeq rfl rfl) ?_
  refine nil ?_
  show Code.wp _ _ _ _ _
  refine cond rfl (fun c10 => ?_) (fun c10 => ?_)
  ·
    simp only [Bool.and_eq_true, Bool.or_eq_true, Bool.and_eq_false_iff, Bool.or_eq_false_iff, decide_eq_true_eq, decide_eq_false_iff_not, Bool.not_eq_true, Bool.not_eq_false, Bool.not_not, Bool.not_eq_eq_eq_not, Bool.not_true, Bool.not_false, Bool.false_eq_true, Bool.true_eq_false, ne_eq, Decidable.not_not, not_false_eq_true, not_true_eq_false] at c10
    refine seq ?_
    refine region ?_
    refine sv (yAsg rfl) ?_
    refine nil ?_
    show Code.wp _ _ _ _ _
    refine wp_ret (thenR ?_)
    exact retV (res1 rfl (eqB (by rw [decide_eq_false (fun h => by rw [h] at c10; exact c10 rfl)]))) hS.ext
  ·
    simp only [Bool.and_eq_true, Bool.or_eq_true, Bool.and_eq_false_iff, Bool.or_eq_false_iff, decide_eq_true_eq, decide_eq_false_iff_not, Bool.not_eq_true, Bool.not_eq_false, Bool.not_not, Bool.not_eq_eq_eq_not, Bool.not_true, Bool.not_false, Bool.false_eq_true, Bool.true_eq_false, ne_eq, Decidable.not_not, not_false_eq_true, not_true_eq_false] at c10
    refine skip ?_
    show Code.wp _ _ _ _ _
    refine seq ?_
    refine seq ?_
    refine region ?_
    refine sv (yAsg rfl) ?_
    refine nil ?_
    show Code.wp _ _ _ _ _
    refine block ?_
    refine loop (fun f w zz => ∃ (k : Nat), f 0 = .slice aa la.length ca ∧ f 1 = .slice ab lb.length cb ∧ f 5 = .int .i64 (k : Int) ∧ StX [] w0 w [] ∧ (k ≤ la.length) ∧ (∀ i, i < k → la[i]? = lb[i]?) ∧ zz = la.length - k) _ ⟨_, rfl, 0, rfl, rfl, rfl, hS, (Nat.zero_le _), (fun i hi => absurd hi (Nat.not_lt_zero i)), rfl⟩ ?_
    clear hS
    rintro f w _ ⟨k, h0, h1, h5, hS, hk, hI, rfl⟩
    refine seq ?_
    refine seq ?_
    refine region ?_
    refine sv (yMove h5) ?_
    refine sv (yMove h0) ?_
    refine sv (yLen rfl Try.underlying62) ?_
    refine sv (yLss rfl rfl) ?_
    refine nil ?_
    show Code.wp _ _ _ _ _
    refine cond rfl (fun c14 => ?_) (fun c14 => ?_)
    ·
      simp only [Bool.and_eq_true, Bool.or_eq_true, Bool.and_eq_false_iff, Bool.or_eq_false_iff, decide_eq_true_eq, decide_eq_false_iff_not, Bool.not_eq_true, Bool.not_eq_false, Bool.not_not, Bool.not_eq_eq_eq_not, Bool.not_true, Bool.not_false, Bool.false_eq_true, Bool.true_eq_false, ne_eq, Decidable.not_not, not_false_eq_true, not_true_eq_false] at c14
      obtain ⟨x, hx, hd⟩ := drop_of (l := la) (k := k) (by omega)
      obtain ⟨b, o, cs, ha, hlen, hcs, hR⟩ := hela (k) (by omega)
      obtain rfl : x = la[k] := (List.getElem?_eq_some_iff.1 hx).2.symm
      generalize la[k] = x at hx hd hR
      obtain ⟨rfl, _⟩ := hR
      obtain ⟨y, hxq, hdq⟩ := drop_of (l := lb) (k := k) (by omega)
      obtain ⟨bq, oq, csq, haq, hlenq, hcsq, hRq⟩ := helb (k) (by omega)
      obtain rfl : y = lb[k] := (List.getElem?_eq_some_iff.1 hxq).2.symm
      generalize lb[k] = y at hxq hdq hRq
      obtain ⟨rfl, _⟩ := hRq
      refine skip ?_
      show Code.wp _ _ _ _ _
      refine seq ?_
      refine block ?_
      refine seq ?_
      refine region_draw mixed (by kernel_rfl) hS ?_
      refine qv (fun w hS => (yMove h0)) ?_
      refine qv (fun w hS => (yMove h5)) ?_
      refine qv (fun w hS => (yIxa rfl ha rfl Try.runUnderlying62 Try.sizeOf86 (by omega) (by omega))) ?_
      refine qv (fun w hS => (yLdA rfl Try.isAgg86 Try.sizeOf86 (hcs.ext hS.ext) rfl)) ?_
      refine qv (fun w hS => (yMove h1)) ?_
      refine qv (fun w hS => (yMove h5)) ?_
      refine qv (fun w hS => (yIxa rfl haq rfl Try.runUnderlying62 Try.sizeOf86 (by omega) (by omega))) ?_
      refine qv (fun w hS => (yLdA rfl Try.isAgg86 Try.sizeOf86 (hcsq.ext hS.ext) rfl)) ?_
      refine qv (fun w hS => (neS86 rfl rfl)) ?_
      clear hS; refine qnil (fun w hS => ?_)
      show Code.wp _ _ _ _ _
      refine cond rfl (fun c25 => ?_) (fun c25 => ?_)
      ·
        skip
        have hne : x ≠ y := fun h => by subst h; simp at c25
        refine seq ?_
        refine region ?_
        refine sv (yAsg rfl) ?_
        refine nil ?_
        show Code.wp _ _ _ _ _
        refine wp_ret (blockR (thenR (thenR (blockR (thenR ?_)))))
        exact retV (res1 rfl (eqB (by rw [decide_eq_false (ne_of_get hx hxq hne)]))) hS.ext
      ·
        skip
        have hxy : x = y := by cases x; cases y; simp at c25; simp [c25]
        refine skip ?_
        show Code.wp _ _ _ _ _
        refine region ?_
        refine sv (yMove h5) ?_
        refine sv (yAdd rfl rfl ⟨by omega, by omega⟩) ?_
        refine sv (yAsg rfl) ?_
        refine nil ?_
        exact ⟨_, _, rfl, ⟨k + 1, h0, h1, rfl, hS, (by omega), (snoc hI (by rw [hx, hxq, hxy])), rfl⟩, by omega⟩
    ·
      simp only [Bool.and_eq_true, Bool.or_eq_true, Bool.and_eq_false_iff, Bool.or_eq_false_iff, decide_eq_true_eq, decide_eq_false_iff_not, Bool.not_eq_true, Bool.not_eq_false, Bool.not_not, Bool.not_eq_eq_eq_not, Bool.not_true, Bool.not_false, Bool.false_eq_true, Bool.true_eq_false, ne_eq, Decidable.not_not, not_false_eq_true, not_true_eq_false] at c14
      refine exit ?_
      show Code.wp _ _ _ _ _
      refine seq ?_
      refine region ?_
      refine sv (yAsg rfl) ?_
      refine nil ?_
      show Code.wp _ _ _ _ _
      refine wp_ret ?_
      exact retV (res1 rfl (eqB (by rw [decide_eq_true (eq_of_get (by omega) (fun i hi => hI i (by omega)))]))) hS.ext
end Go.Proofs.Ytghgnofilbnbaaa
/- part Ck33 -/
namespace Go.Proofs.Ytghgnofilbnbaaa
open Go Bx
set_option maxHeartbeats 4000000 in
/-- barrage/barragelaw10.allowed -/
theorem c_allowed {c : Crew} {cs ss : List Value} {s : Scr} {w0 : World} (h : RCrew w0 cs c) (hs : RScr w0 ss s) {start : Int} {l : List Int} {v : Value} (hl : Sl w0 1 RInt v l) (hs0 : (scriptF c s).2 = 0) (hm : 0 ≤ start ∧ start ≤ 100000) : CE Try.prog 36 #[.agg cs.toArray, .agg ss.toArray, .int .i64 start, v] w0 (fun u w' => (∃ b : Bool, u = .bool b ∧ (b = true ↔ AllowP c s start l)) ∧ Ext w0 w') := by
  obtain ⟨ov, kv, nv, rfl, hso, hsk, hsn, hrm⟩ := id h
  obtain ⟨a, cap, rfl, hcap, hmx, hel⟩ := id hso
  obtain ⟨sv, rfl, hsz, hst⟩ := id hs
  obtain ⟨ax, cps, rfl, hscap, hsmx, hels⟩ := id hst
  obtain ⟨al, cl, rfl, hlcap, hlmx, hell⟩ := id hl
  have hok := scrOk_of hs0
  have hlen := hok.len
  refine enter Try.func36 rfl Try.ntmps36 rfl ?_
  have hS := St.start w0
  refine seq ?_
  refine region ?_
  refine sbox hS rfl rfl ?_; clear hS; intro b4 w hS
  refine sbox hS rfl rfl ?_; clear hS; intro b5 w hS
  refine sv (yAsg rfl) ?_
  refine nil ?_
  show Code.wp _ _ _ _ _
  refine seq ?_
  refine seq ?_
  refine region ?_
  refine sv (yMove rfl) ?_
  refine sv (yLen rfl Try.underlying30) ?_
  refine sv (fa29_1 rfl) ?_
  refine sv (yLdB rfl Try.isAgg27 (hS.at _) rfl) ?_
  refine sv (yLen rfl Try.underlying27) ?_
  refine sv (yNeq rfl rfl) ?_
  refine nil ?_
  show Code.wp _ _ _ _ _
  refine cond rfl (fun c20 => ?_) (fun c20 => ?_)
  ·
    simp only [Bool.and_eq_true, Bool.or_eq_true, Bool.and_eq_false_iff, Bool.or_eq_false_iff, decide_eq_true_eq, decide_eq_false_iff_not, Bool.not_eq_true, Bool.not_eq_false, Bool.not_not, Bool.not_eq_eq_eq_not, Bool.not_true, Bool.not_false, Bool.false_eq_true, Bool.true_eq_false, ne_eq, Decidable.not_not, not_false_eq_true, not_true_eq_false] at c20
    refine seq ?_
    refine region ?_
    refine sv (yAsg rfl) ?_
    refine nil ?_
    show Code.wp _ _ _ _ _
    refine wp_ret (thenR ?_)
    refine retQ (res1 rfl rfl) ?_
    exact ⟨⟨false, rfl, fun hh => (by cases hh), fun hh => absurd hh.len (by omega)⟩, hS.ext⟩
  ·
    simp only [Bool.and_eq_true, Bool.or_eq_true, Bool.and_eq_false_iff, Bool.or_eq_false_iff, decide_eq_true_eq, decide_eq_false_iff_not, Bool.not_eq_true, Bool.not_eq_false, Bool.not_not, Bool.not_eq_eq_eq_not, Bool.not_true, Bool.not_false, Bool.false_eq_true, Bool.true_eq_false, ne_eq, Decidable.not_not, not_false_eq_true, not_true_eq_false] at c20
    refine skip ?_
    show Code.wp _ _ _ _ _
    refine seq ?_
    refine seq ?_
    refine region ?_
    refine sv (yAsg rfl) ?_
    refine nil ?_
    show Code.wp _ _ _ _ _
    refine block ?_
    refine loop (fun f w zz => ∃ (i : Nat), f 2 = .int .i64 start ∧ f 3 = .slice al l.length cl ∧ f 4 = .pointer (some ⟨b4, 0, none⟩) ∧ f 5 = .pointer (some ⟨b5, 0, none⟩) ∧ f 9 = .int .i64 (i : Int) ∧ StX [] w0 w [blk b5 [.string s.name, .slice ax s.steps.length cps] 29, blk b4 [.slice a c.ops.length cap, kv, nv] 26] ∧ (i ≤ l.length) ∧ (∀ j, j < i → ∀ x y, s.steps[j]? = some x → l[j]? = some y → (ableF c x.kind y).2.2 = 0 ∧ befP start l x + x.least ≤ y ∧ y ≤ befP start l x + x.most) ∧ zz = l.length - i) _ ⟨_, rfl, 0, rfl, rfl, rfl, rfl, rfl, hS, (Nat.zero_le _), (fun j hj => absurd hj (Nat.not_lt_zero j)), rfl⟩ ?_
    clear hS
    rintro f w _ ⟨i, h2, h3, h4, h5, h9, hS, hi, hA, rfl⟩
    refine seq ?_
    refine seq ?_
    refine region ?_
    refine sv (yMove h9) ?_
    refine sv (yMove h3) ?_
    refine sv (yLen rfl Try.underlying30) ?_
    refine sv (yLss rfl rfl) ?_
    refine nil ?_
    show Code.wp _ _ _ _ _
    refine cond rfl (fun c24 => ?_) (fun c24 => ?_)
    ·
      simp only [Bool.and_eq_true, Bool.or_eq_true, Bool.and_eq_false_iff, Bool.or_eq_false_iff, decide_eq_true_eq, decide_eq_false_iff_not, Bool.not_eq_true, Bool.not_eq_false, Bool.not_not, Bool.not_eq_eq_eq_not, Bool.not_true, Bool.not_false, Bool.false_eq_true, Bool.true_eq_false, ne_eq, Decidable.not_not, not_false_eq_true, not_true_eq_false] at c24
      refine skip ?_
      show Code.wp _ _ _ _ _
      refine seq ?_
      refine block ?_
      refine seq ?_
      refine region ?_
      obtain ⟨x, hxq, hdq⟩ := drop_of (l := s.steps) (k := i) (by omega)
      obtain ⟨bq, oq, csq, haq, hlenq, hcsq, hRq⟩ := hels (i) (by omega)
      obtain rfl : x = s.steps[i] := (List.getElem?_eq_some_iff.1 hxq).2.symm
      generalize s.steps[i] = x at hxq hdq hRq
      obtain ⟨rfl, hxi⟩ := hRq
      obtain ⟨y, hxy, hdz⟩ := drop_of (l := l) (k := i) (by omega)
      obtain ⟨bz, oz, csz, haz, hlenz, hcsz, hRz⟩ := hell (i) (by omega)
      obtain rfl : y = l[i] := (List.getElem?_eq_some_iff.1 hxy).2.symm
      generalize l[i] = y at hxy hdz hRz
      obtain ⟨rfl, hyi⟩ := hRz
      have hsx := hok.steps i x hxq
      have hx1 := hsx.after
      have hx2 := hsx.most
      have hx3 := hsx.least
      refine sv (fa29_1 h5) ?_
      refine sv (yLdB rfl Try.isAgg27 (hS.at _) rfl) ?_
      refine sv (yMove h9) ?_
      refine sv (yIxa rfl haq rfl Try.runUnderlying27 Try.sizeOf89 (by omega) (by omega)) ?_
      refine sv (yLdA rfl Try.isAgg89 Try.sizeOf89 (hcsq.ext hS.ext) rfl) ?_
      refine salloc hS Try.zeroValue89 rfl ?_; clear hS; intro b10 w hS
      refine sst hS rfl rfl Try.sizeOf89 rfl rfl rfl rfl ?_; clear hS; intro w hS
      refine nil ?_
      show Code.wp _ _ _ _ _
      refine seq ?_
      refine region ?_
      replace hS : StX [] w0 w (blk b10 (stpC x) 89 :: blk b5 [.string s.name, .slice ax s.steps.length cps] 29 :: blk b4 [.slice a c.ops.length cap, kv, nv] 26 :: []) := hS
      refine sv (yMove h2) ?_
      refine sv (yAsg rfl) ?_
      refine nil ?_
      show Code.wp _ _ _ _ _
      refine seq ?_
      refine seq ?_
      refine region ?_
      refine sv (fa89_2 rfl) ?_
      refine sv (yLdB rfl Try.isAgg3 (hS.at _) rfl) ?_
      refine sv (yMove h9) ?_
      refine sv (yGeq rfl rfl) ?_
      refine nil ?_
      show Code.wp _ _ _ _ _
      refine cond rfl (fun c36 => ?_) (fun c36 => ?_)
      ·
        simp only [Bool.and_eq_true, Bool.or_eq_true, Bool.and_eq_false_iff, Bool.or_eq_false_iff, decide_eq_true_eq, decide_eq_false_iff_not, Bool.not_eq_true, Bool.not_eq_false, Bool.not_not, Bool.not_eq_eq_eq_not, Bool.not_true, Bool.not_false, Bool.false_eq_true, Bool.true_eq_false, ne_eq, Decidable.not_not, not_false_eq_true, not_true_eq_false] at c36
        exfalso; omega
      ·
        simp only [Bool.and_eq_true, Bool.or_eq_true, Bool.and_eq_false_iff, Bool.or_eq_false_iff, decide_eq_true_eq, decide_eq_false_iff_not, Bool.not_eq_true, Bool.not_eq_false, Bool.not_not, Bool.not_eq_eq_eq_not, Bool.not_true, Bool.not_false, Bool.false_eq_true, Bool.true_eq_false, ne_eq, Decidable.not_not, not_false_eq_true, not_true_eq_false] at c36
        refine skip ?_
        show Code.wp _ _ _ _ _
        refine seqJ (n := 81) (fun f w => f 2 = .int .i64 start ∧ f 3 = .slice al l.length cl ∧ f 4 = .pointer (some ⟨b4, 0, none⟩) ∧ f 5 = .pointer (some ⟨b5, 0, none⟩) ∧ f 9 = .int .i64 (i : Int) ∧ f 10 = .pointer (some ⟨b10, 0, none⟩) ∧ f 11 = .int .i64 (befP start l x) ∧ StX [] w0 w [blk b10 (stpC x) 89, blk b5 [.string s.name, .slice ax s.steps.length cps] 29, blk b4 [.slice a c.ops.length cap, kv, nv] 26] ∧ (0 ≤ befP start l x ∧ befP start l x ≤ 100000) ∧ True) ?_ ?_
        ·
          refine seq ?_
          refine region ?_
          refine sv (fa89_2 rfl) ?_
          refine sv (yLdB rfl Try.isAgg3 (hS.at _) rfl) ?_
          refine sv (yGeq rfl rfl) ?_
          refine nil ?_
          show Code.wp _ _ _ _ _
          refine cond rfl (fun c39 => ?_) (fun c39 => ?_)
          ·
            simp only [Bool.and_eq_true, Bool.or_eq_true, Bool.and_eq_false_iff, Bool.or_eq_false_iff, decide_eq_true_eq, decide_eq_false_iff_not, Bool.not_eq_true, Bool.not_eq_false, Bool.not_not, Bool.not_eq_eq_eq_not, Bool.not_true, Bool.not_false, Bool.false_eq_true, Bool.true_eq_false, ne_eq, Decidable.not_not, not_false_eq_true, not_true_eq_false] at c39
            refine region ?_
            obtain ⟨q, hq⟩ := Int.eq_ofNat_of_zero_le c39
            obtain ⟨v, hxv, hdv⟩ := drop_of (l := l) (k := q) (by omega)
            obtain ⟨bv, ov, csv, hav, hlenv, hcsv, hRv⟩ := hell (q) (by omega)
            obtain rfl : v = l[q] := (List.getElem?_eq_some_iff.1 hxv).2.symm
            generalize l[q] = v at hxv hdv hRv
            obtain ⟨rfl, hvi⟩ := hRv
            refine sv (yMove h3) ?_
            refine sv (fa89_2 rfl) ?_
            refine sv (yLdB rfl Try.isAgg3 (hS.at _) rfl) ?_
            refine sv (yIxa rfl hav (rfl.trans (congrArg (Value.int .i64) hq)) Try.runUnderlying30 Try.sizeOf3 (by omega) (by omega)) ?_
            refine sv (yLd rfl Try.isAgg3 ((hcsv.ext hS.ext).one)) ?_
            refine sv (yAsg rfl) ?_
            refine nil ?_
            have hsq := hA q (by omega) _ v (List.getElem?_eq_getElem (show q < s.steps.length by omega)) hxv
            have hqk := ableF_min (crew_of hs0) (hok.steps q _ (List.getElem?_eq_getElem (show q < s.steps.length by omega))).kind hsq.1
            exact ⟨_, rfl, h2, h3, h4, h5, h9, rfl, rfl.trans (congrArg (Value.int .i64) (befP_at hq hxv).symm), hS, (by rw [befP_at hq hxv]; exact hqk), trivial⟩
          ·
            simp only [Bool.and_eq_true, Bool.or_eq_true, Bool.and_eq_false_iff, Bool.or_eq_false_iff, decide_eq_true_eq, decide_eq_false_iff_not, Bool.not_eq_true, Bool.not_eq_false, Bool.not_not, Bool.not_eq_eq_eq_not, Bool.not_true, Bool.not_false, Bool.false_eq_true, Bool.true_eq_false, ne_eq, Decidable.not_not, not_false_eq_true, not_true_eq_false] at c39
            refine skip ?_
            exact ⟨_, rfl, h2, h3, h4, h5, h9, rfl, rfl.trans (congrArg (Value.int .i64) (befP_neg (by omega)).symm), hS, (by rw [befP_neg (by omega)]; exact hm), trivial⟩
        ·
          clear hS; rintro f w ⟨h2, h3, h4, h5, h9, h10, h11, hS, hbb, -⟩
          refine seq ?_
          refine region_draw mixed (by kernel_rfl) hS ?_
          refine qv (fun w hS => (yLdBA h4 Try.isAgg26 Try.sizeOf26 (hS.at _) rfl rfl)) ?_
          refine qv (fun w hS => (fa89_0 h10)) ?_
          refine qv (fun w hS => (yLdB rfl Try.isAgg3 (hS.at _) rfl)) ?_
          refine qv (fun w hS => (yMove h3)) ?_
          refine qv (fun w hS => (yMove h9)) ?_
          refine qv (fun w hS => (yIxa rfl haz rfl Try.runUnderlying30 Try.sizeOf3 (by omega) (by omega))) ?_
          refine qv (fun w hS => (yLd rfl Try.isAgg3 ((hcsz.ext hS.ext).one))) ?_
          refine qcall Try.call29 (.cons rfl (.cons rfl (.cons rfl .nil))) (fun w hS => (c_Able (h.ext hS.ext))) ?_
          refine qv (fun w hS => (yMove rfl)) ?_
          refine qv (fun w hS => (yExt rfl rfl)) ?_
          refine qv (fun w hS => (yExt rfl rfl)) ?_
          refine qv (fun w hS => (yExt rfl rfl)) ?_
          refine qv (fun w hS => (yAsg rfl)) ?_
          refine qv (fun w hS => (yAsg rfl)) ?_
          refine qv (fun w hS => (yAsg rfl)) ?_
          clear hS; refine qnil (fun w hS => ?_)
          show Code.wp _ _ _ _ _
          refine seq ?_
          refine region_draw mixed (by kernel_rfl) hS ?_
          refine qv (fun w hS => (yMove rfl)) ?_
          refine qv (fun w hS => (yNeq rfl rfl)) ?_
          refine qv (fun w hS => (yMove rfl)) ?_
          refine qg rfl rfl rfl (fun g w hS => (yMove h3)) (fun v60 g60 => ?_)
          refine qg rfl rfl rfl (fun g w hS => (yMove h9)) (fun v61 g61 => ?_)
          refine qg rfl rfl rfl (fun g w hS => (yIxa (g60.1 g) haz (g61.1 g) Try.runUnderlying30 Try.sizeOf3 (by omega) (by omega))) (fun v62 g62 => ?_)
          refine qg rfl rfl rfl (fun g w hS => (yLd (g62.1 g) Try.isAgg3 ((hcsz.ext hS.ext).one))) (fun v63 g63 => ?_)
          refine qg rfl rfl rfl (fun g w hS => (yMove h11)) (fun v64 g64 => ?_)
          refine qg rfl rfl rfl (fun g w hS => (fa89_3 h10)) (fun v65 g65 => ?_)
          refine qg rfl rfl rfl (fun g w hS => (yLdB (g65.1 g) Try.isAgg3 (hS.at _) rfl)) (fun v66 g66 => ?_)
          refine qg rfl rfl rfl (fun g w hS => (yAdd (g64.1 g) (g66.1 g) ⟨by omega, by omega⟩)) (fun v67 g67 => ?_)
          refine qg rfl rfl rfl (fun g w hS => (yLss (g63.1 g) (g67.1 g))) (fun v68 g68 => ?_)
          refine qv (fun w hS => (yOr rfl rfl (fun hB => (g68.1 hB)))) ?_
          refine qv (fun w hS => (yMove rfl)) ?_
          refine qg rfl rfl rfl (fun g w hS => (yMove h3)) (fun v71 g71 => ?_)
          refine qg rfl rfl rfl (fun g w hS => (yMove h9)) (fun v72 g72 => ?_)
          refine qg rfl rfl rfl (fun g w hS => (yIxa (g71.1 g) haz (g72.1 g) Try.runUnderlying30 Try.sizeOf3 (by omega) (by omega))) (fun v73 g73 => ?_)
          refine qg rfl rfl rfl (fun g w hS => (yLd (g73.1 g) Try.isAgg3 ((hcsz.ext hS.ext).one))) (fun v74 g74 => ?_)
          refine qg rfl rfl rfl (fun g w hS => (yMove h11)) (fun v75 g75 => ?_)
          refine qg rfl rfl rfl (fun g w hS => (fa89_4 h10)) (fun v76 g76 => ?_)
          refine qg rfl rfl rfl (fun g w hS => (yLdB (g76.1 g) Try.isAgg3 (hS.at _) rfl)) (fun v77 g77 => ?_)
          refine qg rfl rfl rfl (fun g w hS => (yAdd (g75.1 g) (g77.1 g) ⟨by omega, by omega⟩)) (fun v78 g78 => ?_)
          refine qg rfl rfl rfl (fun g w hS => (yGtr (g74.1 g) (g78.1 g))) (fun v79 g79 => ?_)
          refine qv (fun w hS => (yOr rfl rfl (fun hB => (g79.1 hB)))) ?_
          clear hS; refine qnil (fun w hS => ?_)
          show Code.wp _ _ _ _ _
          refine cond rfl (fun c80 => ?_) (fun c80 => ?_)
          ·
            simp only [Bool.and_eq_true, Bool.or_eq_true, Bool.and_eq_false_iff, Bool.or_eq_false_iff, decide_eq_true_eq, decide_eq_false_iff_not, Bool.not_eq_true, Bool.not_eq_false, Bool.not_not, Bool.not_eq_eq_eq_not, Bool.not_true, Bool.not_false, Bool.false_eq_true, Bool.true_eq_false, ne_eq, Decidable.not_not, not_false_eq_true, not_true_eq_false] at c80
            refine seq ?_
            refine region ?_
            refine sv (yAsg rfl) ?_
            refine nil ?_
            show Code.wp _ _ _ _ _
            refine wp_ret (blockR (thenR (thenR (blockR (thenR ?_)))))
            refine retQ (res1 rfl rfl) ?_
            exact ⟨⟨false, rfl, fun hh => (by cases hh), fun hh => by have h9 := hh.at_ i x y hxq hxy; rcases c80 with (h1 | h1) | h1; exact absurd h9.1 h1; omega; omega⟩, hS.ext⟩
          ·
            simp only [Bool.and_eq_true, Bool.or_eq_true, Bool.and_eq_false_iff, Bool.or_eq_false_iff, decide_eq_true_eq, decide_eq_false_iff_not, Bool.not_eq_true, Bool.not_eq_false, Bool.not_not, Bool.not_eq_eq_eq_not, Bool.not_true, Bool.not_false, Bool.false_eq_true, Bool.true_eq_false, ne_eq, Decidable.not_not, not_false_eq_true, not_true_eq_false] at c80
            refine skip ?_
            show Code.wp _ _ _ _ _
            refine region ?_
            refine sv (yMove h9) ?_
            refine sv (yAdd rfl rfl ⟨by omega, by omega⟩) ?_
            refine sv (yAsg rfl) ?_
            refine nil ?_
            exact ⟨_, _, rfl, ⟨i + 1, h2, h3, h4, h5, rfl, (hS.sub (.cons _ (List.Sublist.refl _))), (by omega), (snoc hA (fun x' y' hx' hy' => by cases Option.some.inj (hxq.symm.trans hx'); cases Option.some.inj (hxy.symm.trans hy'); exact ⟨c80.1.1, by omega, by omega⟩)), rfl⟩, by omega⟩
    ·
      simp only [Bool.and_eq_true, Bool.or_eq_true, Bool.and_eq_false_iff, Bool.or_eq_false_iff, decide_eq_true_eq, decide_eq_false_iff_not, Bool.not_eq_true, Bool.not_eq_false, Bool.not_not, Bool.not_eq_eq_eq_not, Bool.not_true, Bool.not_false, Bool.false_eq_true, Bool.true_eq_false, ne_eq, Decidable.not_not, not_false_eq_true, not_true_eq_false] at c24
      refine exit ?_
      show Code.wp _ _ _ _ _
      refine seq ?_
      refine region ?_
      refine sv (yAsg rfl) ?_
      refine nil ?_
      show Code.wp _ _ _ _ _
      refine wp_ret ?_
      refine retQ (res1 rfl rfl) ?_
      exact ⟨⟨true, rfl, fun _ => ⟨by omega, fun j x y hx hy => hA j (by have := (List.getElem?_eq_some_iff.1 hy).1; omega) x y hx hy⟩, fun _ => rfl⟩, hS.ext⟩
end Go.Proofs.Ytghgnofilbnbaaa
/- part Ck34 -/
namespace Go.Proofs.Ytghgnofilbnbaaa
open Go Bx
set_option maxHeartbeats 8000000 in
/-- barrage/barragelaw10.CrewFirst -/
theorem w_CrewFirst {c : Crew} {cs ds : List Value} {d : Drl} {w0 : World} (h : RCrew w0 cs c) (hd : RDrl w0 ds d) {l : List Int} {v : Value} (hl : Sl w0 1 RInt v l) : CV Try.prog 12 #[.agg cs.toArray, .agg ds.toArray, v] w0 (.bool true) := by
  obtain ⟨ov, kv, nv, rfl, hso, hsk, hsn, hrm⟩ := id h
  obtain ⟨a, cap, rfl, hcap, hmx, hel⟩ := id hso
  obtain ⟨sv, acv, rfl, hsz, hst, hsi, hac⟩ := id hd
  obtain ⟨ax, cps, rfl, hscap, hsmx, hels⟩ := id hst
  have hs : RScr w0 [.string d.script.name, .slice ax d.script.steps.length cps] d.script := ⟨_, rfl, hsz, hst⟩
  obtain ⟨al, cl, rfl, hlcap, hlmx, hell⟩ := id hl
  refine enter Try.func12 rfl Try.ntmps12 rfl ?_
  have hS := St.start w0
  refine seq ?_
  refine region ?_
  refine sbox hS rfl rfl ?_; clear hS; intro b3 w hS
  refine sbox hS rfl rfl ?_; clear hS; intro b4 w hS
  refine sv (yAsg rfl) ?_
  refine nil ?_
  show Code.wp _ _ _ _ _
  refine seq ?_
  refine region ?_
  refine sv (yLdBA rfl Try.isAgg26 Try.sizeOf26 (hS.at _) rfl rfl) ?_
  refine sv (fa39_0 rfl) ?_
  refine sv (yLdBA rfl Try.isAgg29 Try.sizeOf29 (hS.at _) rfl rfl) ?_
  refine sv (fa39_1 rfl) ?_
  refine sv (yLdB rfl Try.isAgg3 (hS.at _) rfl) ?_
  refine scall Try.call15 (.cons rfl (.cons rfl (.cons rfl .nil))) (c_Plan (h.ext hS.ext) (hs.ext hS.ext)) ?_
  rintro _ w ⟨pv, rfl, hM⟩; replace hS := hS.call1 hM; clear hM
  obtain ⟨ap, cp, rfl⟩ := row_shape (hS.row pv)
  refine sv (yMove rfl) ?_
  refine sv (yExt rfl rfl) ?_
  refine sv (yExt rfl rfl) ?_
  refine sv (yAsg rfl) ?_
  refine sv (yAsg rfl) ?_
  refine nil ?_
  show Code.wp _ _ _ _ _
  refine seq ?_
  refine region ?_
  refine sv (yLdBA rfl Try.isAgg26 Try.sizeOf26 (hS.at _) rfl rfl) ?_
  refine sv (fa39_0 rfl) ?_
  refine sv (yLdBA rfl Try.isAgg29 Try.sizeOf29 (hS.at _) rfl rfl) ?_
  refine scall Try.call25 (.cons rfl (.cons rfl .nil)) (c_Windows (h.ext hS.ext) (hs.ext hS.ext)) ?_
  rintro _ w ⟨wv, rfl, hM⟩; replace hS := hS.call1 hM; clear hM
  obtain ⟨aw, cw, rfl⟩ := row_shape (hS.row wv)
  refine sv (yMove rfl) ?_
  refine sv (yExt rfl rfl) ?_
  refine sv (yExt rfl rfl) ?_
  refine sv (yAsg rfl) ?_
  refine sv (yAsg rfl) ?_
  refine nil ?_
  show Code.wp _ _ _ _ _
  refine seq ?_
  refine seq ?_
  refine region ?_
  refine sv (yMove rfl) ?_
  refine sv (yNeq rfl rfl) ?_
  refine sv (yMove rfl) ?_
  refine sg rfl rfl rfl (fun g => (yMove rfl)) (fun v33 g33 => ?_)
  refine sg rfl rfl rfl (fun g => (yNeq (g33.1 g) rfl)) (fun v34 g34 => ?_)
  refine sv (yAnd rfl (fun hB => (g34.1 hB)) rfl) ?_
  refine sv (yMove rfl) ?_
  refine sg rfl rfl rfl (fun g => (yMove rfl)) (fun v37 g37 => ?_)
  refine sg rfl rfl rfl (fun g => (yNeq (g37.1 g) rfl)) (fun v38 g38 => ?_)
  refine sv (yOr rfl rfl (fun hB => (g38.1 hB))) ?_
  refine nil ?_
  show Code.wp _ _ _ _ _
  refine cond rfl (fun c39 => ?_) (fun c39 => ?_)
  ·
    simp only [Bool.and_eq_true, Bool.or_eq_true, Bool.and_eq_false_iff, Bool.or_eq_false_iff, decide_eq_true_eq, decide_eq_false_iff_not, Bool.not_eq_true, Bool.not_eq_false, Bool.not_not, Bool.not_eq_eq_eq_not, Bool.not_true, Bool.not_false, Bool.false_eq_true, Bool.true_eq_false, ne_eq, Decidable.not_not, not_false_eq_true, not_true_eq_false] at c39
    refine seq ?_
    refine region ?_
    refine sv (yMove rfl) ?_
    refine sv (yNeq rfl rfl) ?_
    refine sv (yMove rfl) ?_
    refine sgc hS rfl rfl rfl Try.call18 (fun g => .nil) (fun g => c_Awake) ?_; clear hS; intro v43 w hS g43
    refine sv (yAnd rfl (fun hB => (g43.1 hB)) rfl) ?_
    refine sv (yAsg rfl) ?_
    refine nil ?_
    show Code.wp _ _ _ _ _
    refine wp_ret (thenR ?_)
    exact retV (res1 rfl (eqB (by rw [Bool.and_true]; exact (decide_eq_true (first_bad c39)).symm))) hS.ext
  ·
    simp only [Bool.and_eq_true, Bool.or_eq_true, Bool.and_eq_false_iff, Bool.or_eq_false_iff, decide_eq_true_eq, decide_eq_false_iff_not, Bool.not_eq_true, Bool.not_eq_false, Bool.not_not, Bool.not_eq_eq_eq_not, Bool.not_true, Bool.not_false, Bool.false_eq_true, Bool.true_eq_false, ne_eq, Decidable.not_not, not_false_eq_true, not_true_eq_false] at c39
    have hs0 : (scriptF c d.script).2 = 0 := c39.2
    have hpe : planE c d.script d.start = 0 ∨ planE c d.script d.start = 9 := c39.1
    have hm := plan_start hs0 hpe
    have hlen := (scrOk_of hs0).len
    refine skip ?_
    show Code.wp _ _ _ _ _
    refine seq ?_
    refine region ?_
    refine sv (yLdBA rfl Try.isAgg26 Try.sizeOf26 (hS.at _) rfl rfl) ?_
    refine sv (fa39_0 rfl) ?_
    refine sv (yLdBA rfl Try.isAgg29 Try.sizeOf29 (hS.at _) rfl rfl) ?_
    refine sv (fa39_1 rfl) ?_
    refine sv (yLdB rfl Try.isAgg3 (hS.at _) rfl) ?_
    refine sv (yMove rfl) ?_
    refine scall Try.call36 (.cons rfl (.cons rfl (.cons rfl (.cons rfl .nil)))) (c_allowed (h.ext hS.ext) (hs.ext hS.ext) (hl.ext RInt.stays hS.ext) hs0 hm) ?_
    rintro _ w ⟨⟨can, rfl, hcan⟩, hE⟩; replace hS := hS.step hE; clear hE
    refine sv (yAsg rfl) ?_
    refine nil ?_
    show Code.wp _ _ _ _ _
    refine seq ?_
    refine seq ?_
    refine region ?_
    refine sv (yMove rfl) ?_
    refine sv (yEql rfl rfl) ?_
    refine nil ?_
    show Code.wp _ _ _ _ _
    refine cond rfl (fun c53 => ?_) (fun c53 => ?_)
    ·
      simp only [Bool.and_eq_true, Bool.or_eq_true, Bool.and_eq_false_iff, Bool.or_eq_false_iff, decide_eq_true_eq, decide_eq_false_iff_not, Bool.not_eq_true, Bool.not_eq_false, Bool.not_not, Bool.not_eq_eq_eq_not, Bool.not_true, Bool.not_false, Bool.false_eq_true, Bool.true_eq_false, ne_eq, Decidable.not_not, not_false_eq_true, not_true_eq_false] at c53
      have hcf : can = false := by
        cases hc : can with
        | false => rfl
        | true => exact absurd (hcan.1 hc) ((plan_down hs0 c53).2 _)
      refine seq ?_
      refine region ?_
      refine sv (yMove rfl) ?_
      refine sv (yNot rfl) ?_
      refine sv (yMove rfl) ?_
      refine sgc hS rfl rfl rfl Try.call18 (fun g => .nil) (fun g => c_Awake) ?_; clear hS; intro v57 w hS g57
      refine sv (yAnd rfl (fun hB => (g57.1 hB)) rfl) ?_
      refine sv (yAsg rfl) ?_
      refine nil ?_
      show Code.wp _ _ _ _ _
      refine wp_ret (thenR ?_)
      exact retV (res1 rfl (eqB (by rw [hcf]; rfl))) hS.ext
    ·
      simp only [Bool.and_eq_true, Bool.or_eq_true, Bool.and_eq_false_iff, Bool.or_eq_false_iff, decide_eq_true_eq, decide_eq_false_iff_not, Bool.not_eq_true, Bool.not_eq_false, Bool.not_not, Bool.not_eq_eq_eq_not, Bool.not_true, Bool.not_false, Bool.false_eq_true, Bool.true_eq_false, ne_eq, Decidable.not_not, not_false_eq_true, not_true_eq_false] at c53
      have hP : planE c d.script d.start = 0 := hpe.resolve_right c53
      obtain ⟨-, -, hgo, hpl⟩ := plan_ok hP
      have hwl : (winF c d.script).length = d.script.steps.length := by rw [winF_ok hs0, winL_len]
      have hpb := good_bd hs0 hgo hpl
      refine skip ?_
      show Code.wp _ _ _ _ _
      refine seq ?_
      refine seq ?_
      refine region ?_
      refine sv (yLdBA rfl Try.isAgg26 Try.sizeOf26 (hS.at _) rfl rfl) ?_
      refine sv (fa39_0 rfl) ?_
      refine sv (yLdBA rfl Try.isAgg29 Try.sizeOf29 (hS.at _) rfl rfl) ?_
      refine sv (fa39_1 rfl) ?_
      refine sv (yLdB rfl Try.isAgg3 (hS.at _) rfl) ?_
      refine sv (yMove rfl) ?_
      refine scall Try.call36 (.cons rfl (.cons rfl (.cons rfl (.cons rfl .nil)))) (c_allowed (h.ext hS.ext) (hs.ext hS.ext) (sl_ints (hS.row (.slice ap (planL c d.script d.start).length cp)) rfl (fun y hy => by have := hpb y hy; exact ⟨by omega, by omega⟩)) hs0 hm) ?_
      rintro _ w ⟨⟨can2, rfl, hcan2⟩, hE⟩; replace hS := hS.step hE; clear hE
      refine sv (yNot rfl) ?_
      refine sv (yMove rfl) ?_
      refine sg rfl rfl rfl (fun g => (yMove rfl)) (fun v68 g68 => ?_)
      refine sg rfl rfl rfl (fun g => (yLen (g68.1 g) Try.underlying62)) (fun v69 g69 => ?_)
      refine sg rfl rfl rfl (fun g => (yMove rfl)) (fun v70 g70 => ?_)
      refine sg rfl rfl rfl (fun g => (yLen (g70.1 g) Try.underlying30)) (fun v71 g71 => ?_)
      refine sg rfl rfl rfl (fun g => (yNeq (g69.1 g) (g71.1 g))) (fun v72 g72 => ?_)
      refine sv (yOr rfl rfl (fun hB => (g72.1 hB))) ?_
      refine nil ?_
      show Code.wp _ _ _ _ _
      refine cond rfl (fun c73 => ?_) (fun c73 => ?_)
      ·
        simp only [Bool.and_eq_true, Bool.or_eq_true, Bool.and_eq_false_iff, Bool.or_eq_false_iff, decide_eq_true_eq, decide_eq_false_iff_not, Bool.not_eq_true, Bool.not_eq_false, Bool.not_not, Bool.not_eq_eq_eq_not, Bool.not_true, Bool.not_false, Bool.false_eq_true, Bool.true_eq_false, ne_eq, Decidable.not_not, not_false_eq_true, not_true_eq_false] at c73
        exfalso
        have h2 := hcan2.2 (good_allow hs0 hgo hpl)
        rw [h2] at c73
        rcases c73 with h1 | h1
        · cases h1
        · omega
      ·
        simp only [Bool.and_eq_true, Bool.or_eq_true, Bool.and_eq_false_iff, Bool.or_eq_false_iff, decide_eq_true_eq, decide_eq_false_iff_not, Bool.not_eq_true, Bool.not_eq_false, Bool.not_not, Bool.not_eq_eq_eq_not, Bool.not_true, Bool.not_false, Bool.false_eq_true, Bool.true_eq_false, ne_eq, Decidable.not_not, not_false_eq_true, not_true_eq_false] at c73
        refine skip ?_
        show Code.wp _ _ _ _ _
        refine seq ?_
        refine seq ?_
        refine region ?_
        refine sv (yAsg rfl) ?_
        refine nil ?_
        show Code.wp _ _ _ _ _
        refine block ?_
        refine loop (fun f w zz => ∃ (i : Nat), f 2 = .slice al l.length cl ∧ f 4 = .pointer (some ⟨b4, 0, none⟩) ∧ f 7 = .slice ap (planL c d.script d.start).length cp ∧ f 9 = .slice aw (winF c d.script).length cw ∧ f 11 = .bool can ∧ f 12 = .int .i64 (i : Int) ∧ StX [] w0 w [rowI (.slice aw (winF c d.script).length cw) 86 2 (winF c d.script).length ((winF c d.script).flatMap pC), rowI (.slice ap (planL c d.script d.start).length cp) 3 1 (planL c d.script d.start).length ((planL c d.script d.start).flatMap Bx.encI), blk b4 [.string d.script.name, .slice ax d.script.steps.length cps, .int .i64 d.start, acv] 39] ∧ (i ≤ (planL c d.script d.start).length) ∧ zz = (planL c d.script d.start).length - i) _ ⟨_, rfl, 0, rfl, rfl, rfl, rfl, rfl, rfl, (hS.sub (.cons_cons _ (.cons_cons _ (.cons_cons _ (List.nil_sublist _))))), (Nat.zero_le _), rfl⟩ ?_
        clear hS
        rintro f w _ ⟨i, h2, h4, h7, h9, h11, h12, hS, hi, rfl⟩
        refine seq ?_
        refine seq ?_
        refine region ?_
        refine sv (yMove h12) ?_
        refine sv (yMove h7) ?_
        refine sv (yLen rfl Try.underlying30) ?_
        refine sv (yLss rfl rfl) ?_
        refine nil ?_
        show Code.wp _ _ _ _ _
        refine cond rfl (fun c77 => ?_) (fun c77 => ?_)
        ·
          simp only [Bool.and_eq_true, Bool.or_eq_true, Bool.and_eq_false_iff, Bool.or_eq_false_iff, decide_eq_true_eq, decide_eq_false_iff_not, Bool.not_eq_true, Bool.not_eq_false, Bool.not_not, Bool.not_eq_eq_eq_not, Bool.not_true, Bool.not_false, Bool.false_eq_true, Bool.true_eq_false, ne_eq, Decidable.not_not, not_false_eq_true, not_true_eq_false] at c77
          refine skip ?_
          show Code.wp _ _ _ _ _
          refine seq ?_
          refine block ?_
          refine seq ?_
          refine region_draw mixed (by kernel_rfl) hS ?_
          obtain ⟨y, hy, -⟩ := drop_of (l := planL c d.script d.start) (k := i) (by omega)
          obtain ⟨wi, hwi, -⟩ := drop_of (l := winF c d.script) (k := i) (by omega)
          have hyb := hpb y (List.mem_of_getElem? hy)
          have hgw := good_win hs0 hgo i y wi hy (by rw [← winF_ok hs0]; exact hwi)
          obtain ⟨gap, rfl, -⟩ := row_get (hS.row (.slice ap (planL c d.script d.start).length cp)) (by omega)
          obtain ⟨gaw, rfl, -⟩ := row_get (hS.row (.slice aw (winF c d.script).length cw)) (by omega)
          refine qv (fun w hS => (yMove h7)) ?_
          refine qv (fun w hS => (yMove h12)) ?_
          refine qv (fun w hS => (yIx0 rfl rfl Try.runUnderlying30 Try.sizeOf3 (by omega))) ?_
          refine qv (fun w hS => (yLd rfl Try.isAgg3 ((flat_cells0 (enc := Bx.encI) encI_len (row_at (hS.row (.slice (some ⟨gap, 0, none⟩) (planL c d.script d.start).length cp)) rfl (by omega)) hy).one))) ?_
          refine qv (fun w hS => (fa39_1 h4)) ?_
          refine qv (fun w hS => (yLdB rfl Try.isAgg3 (hS.at _) rfl)) ?_
          refine qv (fun w hS => (ySub rfl rfl ⟨by omega, by omega⟩)) ?_
          refine qv (fun w hS => (yMove h9)) ?_
          refine qv (fun w hS => (yMove h12)) ?_
          refine qv (fun w hS => (yIx0 rfl rfl Try.runUnderlying62 Try.sizeOf86 (by omega))) ?_
          refine qv (fun w hS => (fa86_0 rfl)) ?_
          refine qv (fun w hS => (yLd rfl Try.isAgg3 ((flat_cells0 pC_len (row_at (hS.row (.slice (some ⟨gaw, 0, none⟩) (winF c d.script).length cw)) rfl (by omega)) hwi).at (j := 0) rfl))) ?_
          refine qv (fun w hS => (yLss rfl rfl)) ?_
          refine qv (fun w hS => (yMove rfl)) ?_
          refine qg rfl rfl rfl (fun g w hS => (yMove h7)) (fun v94 g94 => ?_)
          refine qg rfl rfl rfl (fun g w hS => (yMove h12)) (fun v95 g95 => ?_)
          refine qg rfl rfl rfl (fun g w hS => (yIx0 (g94.1 g) (g95.1 g) Try.runUnderlying30 Try.sizeOf3 (by omega))) (fun v96 g96 => ?_)
          refine qg rfl rfl rfl (fun g w hS => (yLd (g96.1 g) Try.isAgg3 ((flat_cells0 (enc := Bx.encI) encI_len (row_at (hS.row (.slice (some ⟨gap, 0, none⟩) (planL c d.script d.start).length cp)) rfl (by omega)) hy).one))) (fun v97 g97 => ?_)
          refine qg rfl rfl rfl (fun g w hS => (fa39_1 h4)) (fun v98 g98 => ?_)
          refine qg rfl rfl rfl (fun g w hS => (yLdB (g98.1 g) Try.isAgg3 (hS.at _) rfl)) (fun v99 g99 => ?_)
          refine qg rfl rfl rfl (fun g w hS => (ySub (g97.1 g) (g99.1 g) ⟨by omega, by omega⟩)) (fun v100 g100 => ?_)
          refine qg rfl rfl rfl (fun g w hS => (yMove h9)) (fun v101 g101 => ?_)
          refine qg rfl rfl rfl (fun g w hS => (yMove h12)) (fun v102 g102 => ?_)
          refine qg rfl rfl rfl (fun g w hS => (yIx0 (g101.1 g) (g102.1 g) Try.runUnderlying62 Try.sizeOf86 (by omega))) (fun v103 g103 => ?_)
          refine qg rfl rfl rfl (fun g w hS => (fa86_1 (g103.1 g))) (fun v104 g104 => ?_)
          refine qg rfl rfl rfl (fun g w hS => (yLd (g104.1 g) Try.isAgg3 ((flat_cells0 pC_len (row_at (hS.row (.slice (some ⟨gaw, 0, none⟩) (winF c d.script).length cw)) rfl (by omega)) hwi).at (j := 1) rfl))) (fun v105 g105 => ?_)
          refine qg rfl rfl rfl (fun g w hS => (yGtr (g100.1 g) (g105.1 g))) (fun v106 g106 => ?_)
          refine qv (fun w hS => (yOr rfl rfl (fun hB => (g106.1 hB)))) ?_
          clear hS; refine qnil (fun w hS => ?_)
          show Code.wp _ _ _ _ _
          refine cond rfl (fun c107 => ?_) (fun c107 => ?_)
          ·
            simp only [Bool.and_eq_true, Bool.or_eq_true, Bool.and_eq_false_iff, Bool.or_eq_false_iff, decide_eq_true_eq, decide_eq_false_iff_not, Bool.not_eq_true, Bool.not_eq_false, Bool.not_not, Bool.not_eq_eq_eq_not, Bool.not_true, Bool.not_false, Bool.false_eq_true, Bool.true_eq_false, ne_eq, Decidable.not_not, not_false_eq_true, not_true_eq_false] at c107
            exfalso; omega
          ·
            simp only [Bool.and_eq_true, Bool.or_eq_true, Bool.and_eq_false_iff, Bool.or_eq_false_iff, decide_eq_true_eq, decide_eq_false_iff_not, Bool.not_eq_true, Bool.not_eq_false, Bool.not_not, Bool.not_eq_eq_eq_not, Bool.not_true, Bool.not_false, Bool.false_eq_true, Bool.true_eq_false, ne_eq, Decidable.not_not, not_false_eq_true, not_true_eq_false] at c107
            refine skip ?_
            show Code.wp _ _ _ _ _
            refine region ?_
            refine sv (yMove h12) ?_
            refine sv (yAdd rfl rfl ⟨by omega, by omega⟩) ?_
            refine sv (yAsg rfl) ?_
            refine nil ?_
            exact ⟨_, _, rfl, ⟨i + 1, h2, h4, h7, h9, h11, rfl, hS, (by omega), rfl⟩, by omega⟩
        ·
          simp only [Bool.and_eq_true, Bool.or_eq_true, Bool.and_eq_false_iff, Bool.or_eq_false_iff, decide_eq_true_eq, decide_eq_false_iff_not, Bool.not_eq_true, Bool.not_eq_false, Bool.not_not, Bool.not_eq_eq_eq_not, Bool.not_true, Bool.not_false, Bool.false_eq_true, Bool.true_eq_false, ne_eq, Decidable.not_not, not_false_eq_true, not_true_eq_false] at c77
          refine exit ?_
          show Code.wp _ _ _ _ _
          refine seq ?_
          refine seq ?_
          refine region ?_
          refine sv (yAsg rfl) ?_
          refine nil ?_
          show Code.wp _ _ _ _ _
          refine block ?_
          refine loop (fun f w zz => ∃ (j : Nat), f 2 = .slice al l.length cl ∧ f 7 = .slice ap (planL c d.script d.start).length cp ∧ f 11 = .bool can ∧ f 13 = .int .i64 (j : Int) ∧ StX [] w0 w [rowI (.slice ap (planL c d.script d.start).length cp) 3 1 (planL c d.script d.start).length ((planL c d.script d.start).flatMap Bx.encI)] ∧ (j ≤ (planL c d.script d.start).length) ∧ (can = true → ∀ q, q < j → l[q]? = (planL c d.script d.start)[q]?) ∧ zz = (planL c d.script d.start).length - j) _ ⟨_, rfl, 0, h2, h7, h11, rfl, (hS.sub (.cons _ (.cons_cons _ (List.nil_sublist _)))), (Nat.zero_le _), (fun _ q hq => absurd hq (Nat.not_lt_zero q)), rfl⟩ ?_
          clear hS
          rintro f w _ ⟨j, h2, h7, h11, h13, hS, hj, heq, rfl⟩
          refine seq ?_
          refine seq ?_
          refine region ?_
          refine sv (yMove h13) ?_
          refine sv (yMove h7) ?_
          refine sv (yLen rfl Try.underlying30) ?_
          refine sv (yLss rfl rfl) ?_
          refine sv (yMove rfl) ?_
          refine sg rfl rfl rfl (fun g => (yMove h11)) (fun v113 g113 => ?_)
          refine sv (yAnd rfl (fun hB => (g113.1 hB)) rfl) ?_
          refine nil ?_
          show Code.wp _ _ _ _ _
          refine cond rfl (fun c114 => ?_) (fun c114 => ?_)
          ·
            simp only [Bool.and_eq_true, Bool.or_eq_true, Bool.and_eq_false_iff, Bool.or_eq_false_iff, decide_eq_true_eq, decide_eq_false_iff_not, Bool.not_eq_true, Bool.not_eq_false, Bool.not_not, Bool.not_eq_eq_eq_not, Bool.not_true, Bool.not_false, Bool.false_eq_true, Bool.true_eq_false, ne_eq, Decidable.not_not, not_false_eq_true, not_true_eq_false] at c114
            refine skip ?_
            show Code.wp _ _ _ _ _
            refine seq ?_
            refine block ?_
            refine seq ?_
            refine seq ?_
            refine region_draw mixed (by kernel_rfl) hS ?_
            have hA := hcan.1 c114.2
            have hAl := hA.len
            obtain ⟨y, hy, -⟩ := drop_of (l := planL c d.script d.start) (k := j) (by omega)
            obtain ⟨z, hxz, hdz⟩ := drop_of (l := l) (k := j) (by omega)
            obtain ⟨bz, oz, csz, haz, hlenz, hcsz, hRz⟩ := hell (j) (by omega)
            obtain rfl : z = l[j] := (List.getElem?_eq_some_iff.1 hxz).2.symm
            generalize l[j] = z at hxz hdz hRz
            obtain ⟨rfl, hzi⟩ := hRz
            have hfi := good_first hs0 hA hgo (heq c114.2) hxz hy
            obtain ⟨gap, rfl, -⟩ := row_get (hS.row (.slice ap (planL c d.script d.start).length cp)) (by omega)
            refine qv (fun w hS => (yMove h2)) ?_
            refine qv (fun w hS => (yMove h13)) ?_
            refine qv (fun w hS => (yIxa rfl haz rfl Try.runUnderlying30 Try.sizeOf3 (by omega) (by omega))) ?_
            refine qv (fun w hS => (yLd rfl Try.isAgg3 ((hcsz.ext hS.ext).one))) ?_
            refine qv (fun w hS => (yMove h7)) ?_
            refine qv (fun w hS => (yMove h13)) ?_
            refine qv (fun w hS => (yIx0 rfl rfl Try.runUnderlying30 Try.sizeOf3 (by omega))) ?_
            refine qv (fun w hS => (yLd rfl Try.isAgg3 ((flat_cells0 (enc := Bx.encI) encI_len (row_at (hS.row (.slice (some ⟨gap, 0, none⟩) (planL c d.script d.start).length cp)) rfl (by omega)) hy).one))) ?_
            refine qv (fun w hS => (yLss rfl rfl)) ?_
            clear hS; refine qnil (fun w hS => ?_)
            show Code.wp _ _ _ _ _
            refine cond rfl (fun c125 => ?_) (fun c125 => ?_)
            ·
              simp only [Bool.and_eq_true, Bool.or_eq_true, Bool.and_eq_false_iff, Bool.or_eq_false_iff, decide_eq_true_eq, decide_eq_false_iff_not, Bool.not_eq_true, Bool.not_eq_false, Bool.not_not, Bool.not_eq_eq_eq_not, Bool.not_true, Bool.not_false, Bool.false_eq_true, Bool.true_eq_false, ne_eq, Decidable.not_not, not_false_eq_true, not_true_eq_false] at c125
              exfalso; omega
            ·
              simp only [Bool.and_eq_true, Bool.or_eq_true, Bool.and_eq_false_iff, Bool.or_eq_false_iff, decide_eq_true_eq, decide_eq_false_iff_not, Bool.not_eq_true, Bool.not_eq_false, Bool.not_not, Bool.not_eq_eq_eq_not, Bool.not_true, Bool.not_false, Bool.false_eq_true, Bool.true_eq_false, ne_eq, Decidable.not_not, not_false_eq_true, not_true_eq_false] at c125
              refine skip ?_
              show Code.wp _ _ _ _ _
              refine seq ?_
              refine region_draw mixed (by kernel_rfl) hS ?_
              refine qv (fun w hS => (yMove h2)) ?_
              refine qv (fun w hS => (yMove h13)) ?_
              refine qv (fun w hS => (yIxa rfl haz rfl Try.runUnderlying30 Try.sizeOf3 (by omega) (by omega))) ?_
              refine qv (fun w hS => (yLd rfl Try.isAgg3 ((hcsz.ext hS.ext).one))) ?_
              refine qv (fun w hS => (yMove h7)) ?_
              refine qv (fun w hS => (yMove h13)) ?_
              refine qv (fun w hS => (yIx0 rfl rfl Try.runUnderlying30 Try.sizeOf3 (by omega))) ?_
              refine qv (fun w hS => (yLd rfl Try.isAgg3 ((flat_cells0 (enc := Bx.encI) encI_len (row_at (hS.row (.slice (some ⟨gap, 0, none⟩) (planL c d.script d.start).length cp)) rfl (by omega)) hy).one))) ?_
              refine qv (fun w hS => (yGtr rfl rfl)) ?_
              clear hS; refine qnil (fun w hS => ?_)
              show Code.wp _ _ _ _ _
              refine cond rfl (fun c134 => ?_) (fun c134 => ?_)
              ·
                simp only [Bool.and_eq_true, Bool.or_eq_true, Bool.and_eq_false_iff, Bool.or_eq_false_iff, decide_eq_true_eq, decide_eq_false_iff_not, Bool.not_eq_true, Bool.not_eq_false, Bool.not_not, Bool.not_eq_eq_eq_not, Bool.not_true, Bool.not_false, Bool.false_eq_true, Bool.true_eq_false, ne_eq, Decidable.not_not, not_false_eq_true, not_true_eq_false] at c134
                refine exit ?_
                show Code.wp _ _ _ _ _
                refine seq ?_
                refine region ?_
                refine scall Try.call18 .nil c_Awake ?_
                rintro _ w ⟨rfl, hE⟩; replace hS := hS.step hE; clear hE
                refine sv (yAsg rfl) ?_
                refine nil ?_
                show Code.wp _ _ _ _ _
                refine wp_ret ?_
                exact retV (res1 rfl rfl) hS.ext
              ·
                simp only [Bool.and_eq_true, Bool.or_eq_true, Bool.and_eq_false_iff, Bool.or_eq_false_iff, decide_eq_true_eq, decide_eq_false_iff_not, Bool.not_eq_true, Bool.not_eq_false, Bool.not_not, Bool.not_eq_eq_eq_not, Bool.not_true, Bool.not_false, Bool.false_eq_true, Bool.true_eq_false, ne_eq, Decidable.not_not, not_false_eq_true, not_true_eq_false] at c134
                refine skip ?_
                show Code.wp _ _ _ _ _
                refine region ?_
                refine sv (yMove h13) ?_
                refine sv (yAdd rfl rfl ⟨by omega, by omega⟩) ?_
                refine sv (yAsg rfl) ?_
                refine nil ?_
                exact ⟨_, _, rfl, ⟨j + 1, h2, h7, h11, rfl, hS, (by omega), (fun hc => snoc (heq hc) (by rw [hxz, hy]; congr 1; omega)), rfl⟩, by omega⟩
          ·
            simp only [Bool.and_eq_true, Bool.or_eq_true, Bool.and_eq_false_iff, Bool.or_eq_false_iff, decide_eq_true_eq, decide_eq_false_iff_not, Bool.not_eq_true, Bool.not_eq_false, Bool.not_not, Bool.not_eq_eq_eq_not, Bool.not_true, Bool.not_false, Bool.false_eq_true, Bool.true_eq_false, ne_eq, Decidable.not_not, not_false_eq_true, not_true_eq_false] at c114
            refine exit ?_
            show Code.wp _ _ _ _ _
            refine seq ?_
            refine region ?_
            refine scall Try.call18 .nil c_Awake ?_
            rintro _ w ⟨rfl, hE⟩; replace hS := hS.step hE; clear hE
            refine sv (yAsg rfl) ?_
            refine nil ?_
            show Code.wp _ _ _ _ _
            refine wp_ret ?_
            exact retV (res1 rfl rfl) hS.ext
end Go.Proofs.Ytghgnofilbnbaaa
/- part LibP -/
namespace Bx
open Go Go.RowKit
/-- Several parts as one. -/
def packI (L : List Item) : Item where
  fp := fps L
  ok := fun w => ∀ it ∈ L, it.ok w
  loc := fun w w' h hw it hi => it.loc w w' (fun b hb => h b (List.mem_flatMap.2 ⟨it, hi, hb⟩)) (hw it hi)
  here := fun w hw b hb => by
    obtain ⟨it, hi, hb⟩ := List.mem_flatMap.1 hb
    exact it.here w (hw it hi) b hb
theorem fps_app (L M : List Item) : fps (L ++ M) = fps L ++ fps M := by simp [fps]
theorem fps_pack (M L : List Item) : fps (packI M :: L) = fps (M ++ L) := by rw [fps_app]; rfl
theorem StX.pack {S : List Nat} {w0 w : World} {M L : List Item} (h : StX S w0 w (M ++ L)) : StX S w0 w (packI M :: L) :=
  ⟨h.extx, fun it hi => by
    rcases List.mem_cons.1 hi with rfl | hi
    · exact fun j hj => h.ok j (List.mem_append_left _ hj)
    · exact h.ok it (List.mem_append_right _ hi), by rw [fps_pack]; exact h.own, by rw [fps_pack]; exact h.apart⟩
theorem StX.unpack {S : List Nat} {w0 w : World} {M L : List Item} (h : StX S w0 w (packI M :: L)) : StX S w0 w (M ++ L) := by
  have h2 := h.own
  have h3 := h.apart
  rw [fps_pack] at h2 h3
  exact ⟨h.extx, fun it hi => by
    rcases List.mem_append.1 hi with hi | hi
    · exact h.ok (packI M) (List.mem_cons_self ..) it hi
    · exact h.ok it (List.mem_cons_of_mem _ hi), h2, h3⟩
/-- One part more is packed. -/
theorem StX.packs {S : List Nat} {w0 w : World} {M L : List Item} {x : Item} (h : StX S w0 w (x :: packI M :: L)) : StX S w0 w (packI (M ++ [x]) :: L) := by
  have h1 : StX S w0 w (packI M :: x :: L) := h.perm (.swap _ _ _)
  have h2 : StX S w0 w ((M ++ [x]) ++ L) := by rw [List.append_assoc]; exact h1.unpack
  exact h2.pack
/-- What holds of a packed part. -/
theorem StX.inpack {S : List Nat} {w0 w : World} {M L : List Item} (h : StX S w0 w L) (hp : packI M ∈ L) {it : Item} (hi : it ∈ M) : it.ok w := h.ok _ hp it hi
section
variable {P : Program} {ρ : Operand → Value} {w : World} {ty : TypeId}
/-- Appending a slice without parts. -/
theorem yApp0 {t e : TypeId} {x y : Operand} {a b : Option Addr} {n cap c k : Nat} (hx : ρ x = .slice a n cap) (hy : ρ y = .slice b 0 c) (ht : P.underlying t = some (.slice e)) (hs : ∀ w, (Go.sizeOf e).run P w = .ok k w) (hn : n ≤ cap) :
    Y P ρ (.call ⟨.builtin .append, #[x, y], #[t, t]⟩) ty w (.slice a n cap) w := by
  have h0 : n + 0 ≤ cap := hn
  simp only [Y, xop, execOp, resolve, invoke, builtin, Builtin.append_, List.map_toArray, List.map_cons, List.map_nil, hx, hy]
  cases a <;> cases b <;> simp [run_underlying ht, hs, Builtin.lenOf, Builtin.firstCells, loadCells, loadCellsFrom, storeCells, hn]
end
abbrev wr (n : Int) : Int := IntKind.i64.wrap n
theorem wr_64 (n : Int) : I64 (wr n) := by unfold wr I64; rw [IntKind.wrap_i64]; omega
theorem wr_in {n : Int} (h : I64 n) : wr n = n := wrap_in h

theorem flatten_set {k : Nat} {vs : List Value} : ∀ (css : List (List Value)) (i j : Nat) (cs : List Value), (∀ c ∈ css, c.length = k) → css[i]? = some cs → j + vs.length ≤ k → splice css.flatten (i * k + j) vs = (css.set i (splice cs j vs)).flatten
  | [], i, j, cs, _, h, _ => by simp at h
  | c :: css, 0, j, cs, hl, h, hj => by
    obtain rfl : c = cs := by simpa using h
    have hc := hl c (List.mem_cons_self ..)
    rw [Nat.zero_mul, Nat.zero_add, List.set_cons_zero, List.flatten_cons, List.flatten_cons]
    unfold splice
    rw [List.take_append_of_le_length (by omega), List.drop_append_of_le_length (by omega)]
    simp only [List.append_assoc]
  | c :: css, i + 1, j, cs, hl, h, hj => by
    have hc := hl c (List.mem_cons_self ..)
    have ih := flatten_set css i j cs (fun x hx => hl x (List.mem_cons_of_mem _ hx)) (by simpa using h) hj
    rw [List.set_cons_succ, List.flatten_cons, List.flatten_cons, ← ih]
    unfold splice
    have e : (i + 1) * k + j = c.length + (i * k + j) := by rw [Nat.succ_mul]; omega
    rw [e, List.take_length_add_append, show c.length + (i * k + j) + vs.length = c.length + (i * k + j + vs.length) by omega, List.drop_length_add_append]
    simp only [List.append_assoc]
theorem Rows.lens {α : Type} {w : World} {k : Nat} {R : World → List Value → α → Prop} : ∀ {css : List (List Value)} {l : List α}, Bx.Rows w k R css l → ∀ c ∈ css, c.length = k
  | [], [], _, c, h => by cases h
  | cs :: css, x :: l, ⟨h1, _, h3⟩, c, h => by
    rcases List.mem_cons.1 h with rfl | h
    · exact h1
    · exact Rows.lens h3 c h
theorem Rows.set {α : Type} {w : World} {k : Nat} {R : World → List Value → α → Prop} {cs : List Value} {y : α} (h1 : cs.length = k) (h2 : R w cs y) : ∀ {css : List (List Value)} {l : List α} (i : Nat), Bx.Rows w k R css l → Bx.Rows w k R (css.set i cs) (l.set i y)
  | [], [], _, _ => trivial
  | c :: css, x :: l, 0, ⟨_, _, h⟩ => ⟨h1, h2, h⟩
  | c :: css, x :: l, i + 1, ⟨a, b, h⟩ => ⟨a, b, Rows.set h1 h2 i h⟩
  | [], _ :: _, _, h => h.elim
  | _ :: _, [], _, h => h.elim
/-- The i-th part of rows. -/
theorem rows_cells {α : Type} {w w' : World} {k g : Nat} {R : World → List Value → α → Prop} {css : List (List Value)} {l : List α} (hr : Bx.Rows w k R css l) (hc : Cells w' g 0 css.flatten) {i : Nat} {cs : List Value} (hi : css[i]? = some cs) (hl : i < l.length) : Cells w' g (i * k) cs := by
  obtain ⟨c, e1, e2, _, e4⟩ := hr.get i hl
  obtain rfl := Option.some.inj (hi.symm.trans e1)
  intro j u hu
  have hj : j < k := by have := (List.getElem?_eq_some_iff.1 hu).1; omega
  have := hc (i * k + j) u (by rw [e4 j hj]; exact hu)
  rwa [Nat.zero_add] at this
section
variable {P : Program} {ops : Array Oper} {Q : Exit → Act → World → Prop} {n : Nat} {f : Fr} {S : List Nat} {w0 w w' : World} {L : List Item} {rest : List Oper} {d : Nat} {ty : TypeId} {pos : String} {af : Array Edge}
/-- append(s, x..), s a slice of the call's own, x perhaps without parts. -/
theorem sappS {t e : TypeId} {i : TypeInfo} {z : Value} {size bytes : Nat} {xs' xx : Operand} {a : Option Addr} {nn cap m c l : Nat} {ax : Option Addr} {xs news : List Value} {Lf : Item → List Item} (hS : StX S w0 w L) (hv : ev n f xs' = .slice a nn cap) (hx : ev n f xx = .slice ax m c)
    (ht : P.underlying t = some (.slice e)) (hi : P.info? e = some i) (hz : i.zero = some z) (hsize : i.size = size) (hby : i.bytes = bytes) (hzs : z.cells.size = size) (hsz : 0 < size) (hsf : ∀ w, (Go.sizeOf e).run P w = .ok size w)
    [r : AtR L (.slice a nn cap) e size l xs] [j : SetR L (.slice a nn cap) Lf] (hnews : 0 < m → ∃ b o, ax = some ⟨b, o, none⟩ ∧ Cells w b o news) (hl : news.length = m * size) (h1 : news.all (·.oneCell') = true) (h63 : l + m ≤ 9223372036854775807) (hbytes : (l + m) * bytes ≤ 140737488355328)
    (h : ∀ v' w', StX S w0 w' (Lf (rowI v' e size (l + m) (xs ++ news))) → wpL P ops Q n rest (upd f d v') w') : wpL P ops Q n (⟨some d, .call ⟨.builtin .append, #[xs', xx], #[t, t]⟩, ty, pos, af, none⟩ :: rest) f w := by
  by_cases hm : 0 < m
  · obtain ⟨b, o, rfl, hc⟩ := hnews hm
    exact sapp hS hv hx ht hi hz hsize hby hzs hsz hc hl h1 h63 hbytes h
  · obtain rfl : m = 0 := by omega
    obtain rfl : news = [] := List.eq_nil_of_length_eq_zero (by omega)
    have hr := hS.row (.slice a nn cap)
    have hcap : nn ≤ cap := by
      rcases hr.2 with ⟨e1, _⟩ | ⟨g, c', cur, e1, _, _, h4, _⟩
      · simp only [Value.slice.injEq] at e1; omega
      · simp only [Value.slice.injEq] at e1
        have := row_shape hr
        obtain ⟨a2, c2, e3⟩ := this
        simp only [Value.slice.injEq] at e3
        omega
    refine sv (yApp0 hv hx ht hsf hcap) (h _ _ ?_)
    rw [Nat.add_zero, List.append_nil]
    exact hS.app hr ⟨rfl, rfl, rfl, Nat.le_refl _, fun _ _ _ => rfl⟩ (.inl rfl)
end
/-- What a slice holds, as it is written out. -/
theorem sl_news {α : Type} {w : World} {k : Nat} {R : World → List Value → α → Prop} {a : Option Addr} {cap : Nat} {l : List α} (h : Sl w k R (.slice a l.length cap) l) : ∃ css, Bx.Rows w k R css l ∧ (0 < l.length → ∃ b o, a = some ⟨b, o, none⟩ ∧ Cells w b o css.flatten) := by
  by_cases hl : 0 < l.length
  · obtain ⟨b, o, rfl⟩ : ∃ b o, a = some ⟨b, o, none⟩ := by
      obtain ⟨a2, c, e, _, _, hel⟩ := h
      obtain ⟨rfl, rfl⟩ := slice_inj e.symm
      obtain ⟨b, o, cs, ha, _⟩ := hel 0 hl
      exact ⟨b, o, ha⟩
    obtain ⟨css, h1, h2⟩ := sl_rows h l.length (Nat.le_refl _)
    rw [List.take_length] at h1
    exact ⟨css, h1, fun _ => ⟨b, o, rfl, h2⟩⟩
  · obtain rfl : l = [] := List.eq_nil_of_length_eq_zero (by omega)
    exact ⟨[], trivial, fun hh => absurd hh hl⟩
end Bx
/- part C21 -/
namespace Bx
open Go Go.RowKit
theorem fitB_nat (c : Crew) (m : Int) (i : Nat) (g : Int) : fitB c m i g = (decide (g ≤ gradeOf c i) && onB c i m) := rfl
theorem ableB_iff {c : Crew} {x : Knd} {m : Int} : ableB c x m = true ↔ ∃ i : Nat, i < c.ops.length ∧ fitB c m i x.grade = true ∧ (x.second = 0 ∨ ∃ k : Nat, k < c.ops.length ∧ (k : Int) ≠ i ∧ fitB c m k x.second = true) := by
  have h1 : ableB c x m = true ↔ ∃ p, p ∈ pairsL c x m := by
    unfold ableB
    cases h : pairsL c x m with
    | nil => simp
    | cons p l => exact ⟨fun _ => ⟨p, List.mem_cons_self ..⟩, fun _ => rfl⟩
  rw [h1]
  unfold pairsL prP
  constructor
  · rintro ⟨p, hp⟩
    obtain ⟨i, hi, hp⟩ := List.mem_flatMap.1 hp
    rw [List.mem_range] at hi
    unfold rowP at hp
    split at hp
    · rename_i hf
      refine ⟨i, hi, hf, ?_⟩
      split at hp
      · rename_i h0; exact .inl h0
      · obtain ⟨k, hk, -⟩ := List.mem_map.1 hp
        obtain ⟨h2, h3⟩ := List.mem_filter.1 hk
        rw [Bool.and_eq_true, decide_eq_true_eq] at h3
        exact .inr ⟨k, List.mem_range.1 h2, h3.1, h3.2⟩
    · cases hp
  · rintro ⟨i, hi, hf, h⟩
    by_cases h0 : x.second = 0
    · exact ⟨((i : Int), -1), List.mem_flatMap.2 ⟨i, List.mem_range.2 hi, by unfold rowP; rw [if_pos hf, if_pos h0]; exact List.mem_singleton.2 rfl⟩⟩
    · obtain ⟨k, hk, hne, hf2⟩ := h.resolve_left h0
      refine ⟨((i : Int), (k : Int)), List.mem_flatMap.2 ⟨i, List.mem_range.2 hi, ?_⟩⟩
      unfold rowP inP
      rw [if_pos hf, if_neg h0]
      exact List.mem_map.2 ⟨k, List.mem_filter.2 ⟨List.mem_range.2 hk, by rw [Bool.and_eq_true, decide_eq_true_eq]; exact ⟨hne, hf2⟩⟩, rfl⟩
/-- Who is able with c is able with d. -/
structure Leq (c d : Crew) : Prop where
  kinds : d.kinds = c.kinds
  len : d.ops.length = c.ops.length
  fit : ∀ (i : Nat) (m g : Int), i < c.ops.length → fitB c m i g = true → fitB d m i g = true
theorem Leq.able {c d : Crew} (h : Leq c d) {x : Knd} {m : Int} (ha : ableB c x m = true) : ableB d x m = true := by
  rw [ableB_iff] at ha ⊢
  obtain ⟨i, hi, hf, h2⟩ := ha
  refine ⟨i, by rw [h.len]; exact hi, h.fit i _ _ hi hf, ?_⟩
  rcases h2 with h2 | ⟨k, hk, hne, hf2⟩
  · exact .inl h2
  · exact .inr ⟨k, by rw [h.len]; exact hk, hne, h.fit k _ _ hk hf2⟩
theorem ableF_range {c : Crew} {k m : Int} (h : (ableF c k m).2.2 = 0) : (checkC c).2.2 = 0 ∧ 0 ≤ k ∧ k < c.kinds.length := by
  have hE : ableE c k m = 0 := by
    by_cases h0 : ableE c k m = 0
    · exact h0
    · rw [ableF_e rfl h0] at h; exact h
  unfold ableE at hE
  split at hE
  · rename_i h1; exact absurd hE h1
  split at hE
  · cases hE
  · rename_i h1 h2
    rw [Bool.not_eq_true, outB_false] at h2
    exact ⟨Classical.not_not.1 h1, by omega, by omega⟩
theorem kndAt_eq {c d : Crew} (h : d.kinds = c.kinds) (k : Int) : kndAt d k = kndAt c k := by unfold kndAt; rw [h]
theorem Leq.ableF {c d : Crew} (h : Leq c d) (hd : (checkC d).2.2 = 0) {k m : Int} (ha : (Bx.ableF c k m).2.2 = 0) : (Bx.ableF d k m).2.2 = 0 := by
  obtain ⟨hc, hk⟩ := ableF_range ha
  rw [ableF_iff hc hk, Bool.and_eq_true] at ha
  rw [ableF_iff hd (by rw [h.kinds]; exact hk), Bool.and_eq_true, kndAt_eq h.kinds]
  exact ⟨ha.1, h.able ha.2⟩
theorem firstS_eq {c d : Crew} (h : d.kinds = c.kinds) : ∀ (l : List Stp) (i : Int), firstS d l i = firstS c l i
  | [], _ => rfl
  | x :: l, i => by
    have e : stepE d i x = stepE c i x := by unfold stepE; rw [h]
    unfold firstS
    rw [e, firstS_eq h l]
theorem scriptF_eq {c d : Crew} (hc : (checkC d).2.2 = (checkC c).2.2) (h : d.kinds = c.kinds) (s : Scr) : scriptF d s = scriptF c s := by
  unfold scriptF
  rw [hc, firstS_eq h]
theorem more_plan {c d : Crew} (h : Leq c d) {s : Scr} {start : Int} (hd : (checkC d).2.2 = 0) (hp : planE c s start = 0) :
    planE d s start = 0 ∧ (planL d s start).length = (planL c s start).length ∧ ∀ (i : Nat) y z, (∀ j : Nat, j < i → (planL d s start)[j]? = (planL c s start)[j]?) → (planL c s start)[i]? = some y → (planL d s start)[i]? = some z → z ≤ y := by
  obtain ⟨h1, h2, h3, h4⟩ := plan_ok hp
  have hsd : (scriptF d s).2 = 0 := by rw [scriptF_eq (by rw [hd, crew_of h1]) h.kinds]; exact h1
  have hA : AllowP d s start (planL c s start) := by
    have := good_allow h1 h3 h4
    exact ⟨this.len, fun i x y hx hy => by
      obtain ⟨a, b⟩ := this.at_ i x y hx hy
      exact ⟨h.ableF hd a, b⟩⟩
  have hsp := planR_spec (start := start) (scrOk_of hsd) s.steps 0 [] rfl rfl (Nat.zero_le _) (good_nil d s start)
  cases hr : planR d s start s.steps 0 [] with
  | none =>
    obtain ⟨pre, x, g1, g2, g3⟩ := hsp.2 hr
    exact absurd (good_stop hsd h2.1 hA g1 g2 g3) id
  | some l =>
    obtain ⟨e1, e2⟩ := planE_some hsd (by rw [neverB, outB_false]; exact h2) hr
    obtain ⟨g1, g2⟩ := hsp.1 l hr
    refine ⟨e1, by rw [e2, g2, h4], fun i y z he hy hz => ?_⟩
    rw [e2] at he hz
    exact good_first hsd hA g1 (fun j hj => (he j hj).symm) hy hz
def moreC (c : Crew) (i : Nat) (o : Opr) (g : Int) (sp : Spn) : Crew := { c with ops := c.ops.set i ⟨o.name, g, o.duty ++ [sp]⟩ }
theorem moreC_leq {c : Crew} {i : Nat} {o : Opr} {g : Int} {sp : Spn} (ho : c.ops[i]? = some o) (hg : o.grade ≤ g) : Leq c (moreC c i o g sp) := by
  refine ⟨rfl, by unfold moreC; simp, fun k m r hk hf => ?_⟩
  have hil := (List.getElem?_eq_some_iff.1 ho).1
  by_cases e : k = i
  · subst e
    have e1 : oprAt (moreC c k o g sp) (k : Int) = ⟨o.name, g, o.duty ++ [sp]⟩ := by unfold oprAt moreC; rw [Int.toNat_natCast]; exact getD_hit (by rw [List.getElem?_set_self hil])
    have e2 : oprAt c (k : Int) = o := by unfold oprAt; rw [Int.toNat_natCast]; exact getD_hit ho
    unfold fitB onB at hf ⊢
    rw [e1]
    rw [e2] at hf
    rw [Bool.and_eq_true, decide_eq_true_eq] at hf ⊢
    refine ⟨by show r ≤ g; omega, ?_⟩
    show (o.duty ++ [sp]).any (spnAt m) = true
    rw [List.any_append, hf.2]; rfl
  · have e1 : oprAt (moreC c i o g sp) (k : Int) = oprAt c k := by unfold oprAt moreC; rw [Int.toNat_natCast, List.getD_eq_getElem?_getD, List.getD_eq_getElem?_getD, List.getElem?_set_ne (Ne.symm e)]
    unfold fitB onB at hf ⊢
    rw [e1]
    exact hf
theorem grade_ok {c : Crew} (hc : (checkC c).2.2 = 0) {i : Nat} {o : Opr} (ho : c.ops[i]? = some o) : 1 ≤ o.grade ∧ o.grade ≤ 9 := by
  have := (crewOk_of hc).ops o (List.mem_of_getElem? ho)
  unfold oprE at this
  split at this
  · cases this
  · rename_i h; rw [Bool.not_eq_true, outB_false] at h; exact h
/-! ### later -/
def shS (n : Int) (s : Spn) : Spn := ⟨wr (s.fr + n), wr (s.un + n)⟩
def shO (n : Int) (o : Opr) : Opr := { o with duty := o.duty.map (shS n) }
def shC (c : Crew) (n : Int) : Crew := { c with ops := c.ops.map (shO n) }
/-- Spans that are shifted at all. -/
def ShOk (c : Crew) : Prop := ∀ o ∈ c.ops, ∀ s ∈ o.duty, (s.un ≤ 50000 ∧ 0 ≤ s.fr) ∧ I64 s.fr ∧ I64 s.un
theorem shS_bad {s : Spn} {n : Int} (h : (s.un ≤ 50000 ∧ 0 ≤ s.fr) ∧ I64 s.fr ∧ I64 s.un) (hn : 0 ≤ n ∧ n ≤ 255) : spnBad (shS n s) = spnBad s := by
  obtain ⟨h1, h2, h3⟩ := h
  have e1 : wr (s.un + n) = s.un + n := wr_in ⟨by unfold I64 at h3; omega, by omega⟩
  have e2 : wr (s.fr + n) = s.fr + n ∨ (wr (s.fr + n) < 0 ∧ 100000 < s.fr) := by
    by_cases hb : s.fr + n ≤ 9223372036854775807
    · exact .inl (wr_in ⟨by omega, hb⟩)
    · right
      unfold I64 at h2
      refine ⟨?_, by omega⟩
      unfold wr
      rw [IntKind.wrap_i64]
      omega
  rw [Bool.eq_iff_iff]
  simp only [spnBad, shS, neverB, outB, Bool.or_eq_true, decide_eq_true_eq, e1]
  rcases e2 with e2 | e2
  · rw [e2]; omega
  · omega
theorem any_map {α : Type} {p : α → Bool} {f : α → α} {l : List α} (h : ∀ x ∈ l, p (f x) = p x) : (l.map f).any p = l.any p := by
  rw [List.any_map, Bool.eq_iff_iff, List.any_eq_true, List.any_eq_true]
  exact ⟨fun ⟨x, hx, hp⟩ => ⟨x, hx, by rw [← h x hx]; exact hp⟩, fun ⟨x, hx, hp⟩ => ⟨x, hx, by rw [Function.comp_apply, h x hx]; exact hp⟩⟩
theorem namedR_map {α : Type} {nm : α → ByteArray} {rest : α → Int} {f : α → α} : ∀ (l : List α) (seen : List ByteArray) (i : Int), (∀ x ∈ l, nm (f x) = nm x ∧ rest (f x) = rest x) → namedR nm rest (l.map f) seen i = namedR nm rest l seen i
  | [], _, _, _ => rfl
  | x :: l, seen, i, h => by
    obtain ⟨h1, h2⟩ := h x (List.mem_cons_self ..)
    rw [List.map_cons]
    unfold namedR
    rw [h1, h2, namedR_map l _ _ (fun y hy => h y (List.mem_cons_of_mem _ hy))]
theorem shC_check {c : Crew} {n : Int} (h : ShOk c) (hn : 0 ≤ n ∧ n ≤ 255) : checkC (shC c n) = checkC c := by
  have e1 : sizeBad (shC c n) = sizeBad c := by unfold sizeBad shC; simp
  have e2 : namedR (·.name) oprE (shC c n).ops [] 0 = namedR (·.name) oprE c.ops [] 0 := by
    refine namedR_map c.ops [] 0 (fun o ho => ⟨rfl, ?_⟩)
    unfold oprE
    show (if outB o.grade 1 9 = true then 7 else if (6 : Int) < (o.duty.map (shS n)).length then 3 else if (o.duty.map (shS n)).any spnBad = true then 7 else 0) = _
    rw [List.length_map, any_map (fun s hs => shS_bad (h o ho s hs) hn)]
  unfold checkC
  rw [e1, e2]
  rfl
theorem spn_ok {c : Crew} (hc : (checkC c).2.2 = 0) {o : Opr} (ho : o ∈ c.ops) {s : Spn} (hs : s ∈ o.duty) : 0 ≤ s.fr ∧ s.fr ≤ s.un ∧ s.un ≤ 100000 := by
  have := (crewOk_of hc).ops o ho
  unfold oprE at this
  split at this
  · cases this
  split at this
  · cases this
  split at this
  · cases this
  rename_i h
  have h2 : spnBad s = false := by
    cases hb : spnBad s with
    | false => rfl
    | true => exact absurd (List.any_eq_true.2 ⟨s, hs, hb⟩) h
  simp only [spnBad, Bool.or_eq_false_iff, neverB, outB_false] at h2
  omega
theorem oprAt_mem {c : Crew} {i : Int} : oprAt c i ∈ c.ops ∨ oprAt c i = nOpr := getD_mem
theorem shC_opr (c : Crew) (n i : Int) : oprAt (shC c n) i = shO n (oprAt c i) := by
  unfold oprAt shC
  rw [List.getD_eq_getElem?_getD, List.getD_eq_getElem?_getD, List.getElem?_map]
  cases c.ops[i.toNat]? <;> rfl
theorem shC_on {c : Crew} {n : Int} (hc : (checkC c).2.2 = 0) (h : ShOk c) (hn : 0 ≤ n ∧ n ≤ 255) (i m : Int) : onB (shC c n) i (m + n) = onB c i m := by
  unfold onB
  rw [shC_opr]
  show ((oprAt c i).duty.map (shS n)).any (spnAt (m + n)) = _
  rw [List.any_map]
  rcases oprAt_mem (c := c) (i := i) with hm | hm
  · rw [Bool.eq_iff_iff, List.any_eq_true, List.any_eq_true]
    have key : ∀ s ∈ (oprAt c i).duty, spnAt (m + n) (shS n s) = spnAt m s := fun s hs => by
      obtain ⟨h1, h2, h3⟩ := spn_ok hc hm hs
      have h4 := (h _ hm s hs).1
      have e1 : (shS n s).fr = s.fr + n := wr_in (show I64 (s.fr + n) from ⟨by omega, by omega⟩)
      have e2 : (shS n s).un = s.un + n := wr_in (show I64 (s.un + n) from ⟨by omega, by omega⟩)
      rw [Bool.eq_iff_iff]
      unfold spnAt
      rw [Bool.and_eq_true, Bool.and_eq_true, decide_eq_true_eq, decide_eq_true_eq, decide_eq_true_eq, decide_eq_true_eq, e1, e2]
      omega
    exact ⟨fun ⟨s, hs, hp⟩ => ⟨s, hs, by rw [← key s hs]; exact hp⟩, fun ⟨s, hs, hp⟩ => ⟨s, hs, by rw [Function.comp_apply, key s hs]; exact hp⟩⟩
  · rw [hm]; rfl
theorem shC_fit {c : Crew} {n : Int} (hc : (checkC c).2.2 = 0) (h : ShOk c) (hn : 0 ≤ n ∧ n ≤ 255) (m i g : Int) : fitB (shC c n) (m + n) i g = fitB c m i g := by
  unfold fitB
  rw [shC_on hc h hn, shC_opr]
  rfl
theorem shC_able {c : Crew} {n : Int} (hc : (checkC c).2.2 = 0) (h : ShOk c) (hn : 0 ≤ n ∧ n ≤ 255) (x : Knd) (m : Int) : ableB (shC c n) x (m + n) = ableB c x m := by
  rw [Bool.eq_iff_iff, ableB_iff, ableB_iff]
  have e : (shC c n).ops.length = c.ops.length := by unfold shC; simp
  simp only [e, shC_fit hc h hn]
theorem able_range {c : Crew} (hc : (checkC c).2.2 = 0) (h : ShOk c) {x : Knd} {m : Int} (ha : ableB c x m = true) : 0 ≤ m ∧ m < 50000 := by
  obtain ⟨i, hi, hf, _⟩ := ableB_iff.1 ha
  rw [fitB_nat, Bool.and_eq_true] at hf
  have h2 := hf.2
  unfold onB at h2
  obtain ⟨s, hs, hp⟩ := List.any_eq_true.1 h2
  rcases oprAt_mem (c := c) (i := (i : Int)) with hm | hm
  · have h3 := spn_ok hc hm hs
    have h4 := (h _ hm s hs).1
    simp only [spnAt, Bool.and_eq_true, decide_eq_true_eq] at hp
    omega
  · rw [hm] at hs; cases hs
theorem shC_base {c : Crew} {s : Scr} {n : Int} (hc : (checkC c).2.2 = 0) (h : ShOk c) (hn : 0 ≤ n ∧ n ≤ 255) (st : Nat) (m : Int) : baseP (shC c n) s st (m + n) = baseP c s st m := by
  unfold baseP
  rw [kndAt_eq (c := c) (d := shC c n) rfl, shC_able hc h hn]
  cases ha : ableB c (kndAt c (stpAt s st).kind) m with
  | false => simp
  | true =>
    have := able_range hc h ha
    rw [show neverB (m + n) = false by rw [neverB, outB_false]; omega, show neverB m = false by rw [neverB, outB_false]; omega]
theorem firstIn_sh {p q : Int → Bool} {n lo hi : Int} (h : ∀ v, q (v + n) = p v) (hlo : 0 ≤ lo) (hn : 0 ≤ n) : (0 ≤ firstIn q (lo + n) (hi + n) ↔ 0 ≤ firstIn p lo hi) ∧ (0 ≤ firstIn p lo hi → firstIn q (lo + n) (hi + n) = firstIn p lo hi + n) := by
  unfold firstIn
  have e : (List.range (hi + n - (lo + n) + 1).toNat).find? (fun (j : Nat) => q (lo + n + (j : Int))) = (List.range (hi - lo + 1).toNat).find? (fun (j : Nat) => p (lo + (j : Int))) := by
    rw [show hi + n - (lo + n) + 1 = hi - lo + 1 by omega]
    congr 1
    funext j
    rw [show lo + n + (j : Int) = lo + j + n by omega, h]
  rw [e]
  cases (List.range (hi - lo + 1).toNat).find? (fun (j : Nat) => p (lo + (j : Int))) with
  | none => simp
  | some j => dsimp only; exact ⟨⟨fun _ => by omega, fun _ => by omega⟩, fun _ => by omega⟩
theorem shC_canN {c : Crew} {s : Scr} {n : Int} (hc : (checkC c).2.2 = 0) (h : ShOk c) (hn : 0 ≤ n ∧ n ≤ 255) (hs : ∀ (j : Nat) y, s.steps[j]? = some y → StpOk c j y) : ∀ (d st : Nat) (m : Int), canN (shC c n) s d st (m + n) = canN c s d st m
  | 0, _, _ => rfl
  | d + 1, st, m => by
    simp only [canN]
    rw [shC_base hc h hn]
    cases hb : baseP c s st m with
    | false => simp
    | true =>
      have hm : 0 ≤ m := by
        unfold baseP at hb
        rw [Bool.and_eq_true] at hb
        exact (able_range hc h hb.2).1
      rw [Bool.true_and, Bool.true_and, Bool.eq_iff_iff, List.all_eq_true, List.all_eq_true]
      have key : ∀ k ∈ List.range s.steps.length, (decide ((stpAt s k).after ≠ (st : Int)) || decide (0 ≤ firstIn (canN (shC c n) s d k) (m + n + (stpAt s k).least) (m + n + (stpAt s k).most))) = (decide ((stpAt s k).after ≠ (st : Int)) || decide (0 ≤ firstIn (canN c s d k) (m + (stpAt s k).least) (m + (stpAt s k).most))) := fun k hk => by
        have hx := List.getElem?_eq_getElem (List.mem_range.1 hk)
        have hl := (hs k _ hx).least
        rw [← stpAt_hit hx] at hl
        have := (firstIn_sh (p := canN c s d k) (q := canN (shC c n) s d k) (n := n) (lo := m + (stpAt s k).least) (hi := m + (stpAt s k).most) (fun v => shC_canN hc h hn hs d k v) (by omega) hn.1).1
        rw [show m + n + (stpAt s k).least = m + (stpAt s k).least + n by omega, show m + n + (stpAt s k).most = m + (stpAt s k).most + n by omega]
        congr 1
        exact decide_eq_decide.2 this
      exact ⟨fun h k hk => by rw [← key k hk]; exact h k hk, fun h k hk => by rw [key k hk]; exact h k hk⟩
theorem shC_first {c : Crew} {s : Scr} {n : Int} (hc : (checkC c).2.2 = 0) (h : ShOk c) (hn : 0 ≤ n ∧ n ≤ 255) (hs : ∀ (j : Nat) y, s.steps[j]? = some y → StpOk c j y) {k : Nat} (hk : k < s.steps.length) {b : Int} (hb : 0 ≤ b) : (0 ≤ firstP (shC c n) s k (b + n) ↔ 0 ≤ firstP c s k b) ∧ (0 ≤ firstP c s k b → firstP (shC c n) s k (b + n) = firstP c s k b + n) := by
  have hx := List.getElem?_eq_getElem hk
  have hl := (hs k _ hx).least
  rw [← stpAt_hit hx] at hl
  have := firstIn_sh (p := canS c s k) (q := canS (shC c n) s k) (n := n) (lo := b + (stpAt s k).least) (hi := b + (stpAt s k).most) (fun v => shC_canN hc h hn hs _ k v) (by omega) hn.1
  unfold firstP
  rw [show b + n + (stpAt s k).least = b + (stpAt s k).least + n by omega, show b + n + (stpAt s k).most = b + (stpAt s k).most + n by omega]
  exact this
theorem befP_sh {start n : Int} {l : List Int} {x : Stp} (ha : x.after < l.length) : befP (start + n) (l.map (· + n)) x = befP start l x + n := by
  unfold befP
  split
  · rw [List.getD_eq_getElem?_getD, List.getD_eq_getElem?_getD, List.getElem?_map, List.getElem?_eq_getElem (show x.after.toNat < l.length by omega)]
    rfl
  · rfl
theorem shC_planR {c : Crew} {s : Scr} {n start : Int} (hc : (checkC c).2.2 = 0) (h : ShOk c) (hn : 0 ≤ n ∧ n ≤ 255) (hs : ∀ (j : Nat) y, s.steps[j]? = some y → StpOk c j y) (h0 : 0 ≤ start) : ∀ (r : List Stp) (i : Nat) (l : List Int), r = s.steps.drop i → l.length = i → (∀ y ∈ l, 0 ≤ y) →
    planR (shC c n) s (start + n) r i (l.map (· + n)) = (planR c s start r i l).map (List.map (· + n))
  | [], i, l, _, _, _ => rfl
  | x :: r, i, l, hr, hl, hpos => by
    have hlt : i < s.steps.length := by
      have := congrArg List.length hr
      rw [List.length_drop, List.length_cons] at this
      omega
    have hd := List.drop_eq_getElem_cons hlt
    rw [← hr] at hd
    obtain ⟨e1, e2⟩ := List.cons.inj hd
    have hx : s.steps[i]? = some x := by rw [e1]; exact List.getElem?_eq_getElem hlt
    have hax := (hs i x hx).after
    have hbp : 0 ≤ befP start l x := by
      unfold befP
      split
      · rcases getD_mem (l := l) (i := x.after.toNat) (d := (0 : Int)) with hm | hm
        · exact hpos _ hm
        · rw [hm]; exact Int.le_refl _
      · exact h0
    rw [planR_cons, planR_cons, befP_sh (by omega)]
    obtain ⟨f1, f2⟩ := shC_first hc h hn hs hlt hbp
    by_cases hneg : firstP c s i (befP start l x) < 0
    · rw [if_pos hneg, if_pos (by have := f1.1; omega)]
      rfl
    · have hge : 0 ≤ firstP c s i (befP start l x) := by omega
      rw [if_neg hneg, if_neg (by have := f1.2 hge; omega), f2 hge]
      have := shC_planR hc h hn hs h0 r (i + 1) (l ++ [firstP c s i (befP start l x)]) e2 (by simp [hl]) (fun y hy => by
        rcases List.mem_append.1 hy with hy | hy
        · exact hpos y hy
        · rw [List.mem_singleton.1 hy]; exact hge)
      rw [List.map_append] at this
      exact this
theorem shC_plan {c : Crew} {s : Scr} {n start : Int} (h : ShOk c) (hn : 0 ≤ n ∧ n ≤ 255) (h0 : 0 ≤ start ∧ start ≤ 50000) : planE (shC c n) s (start + n) = planE c s start ∧ planL (shC c n) s (start + n) = (planL c s start).map (· + n) := by
  have hck := shC_check h hn
  have hsc : scriptF (shC c n) s = scriptF c s := scriptF_eq (c := c) (d := shC c n) (by rw [hck]) rfl s
  have n1 : neverB start = false := by rw [neverB, outB_false]; omega
  have n2 : neverB (start + n) = false := by rw [neverB, outB_false]; omega
  by_cases hs : (scriptF c s).2 = 0
  · have hs' : (scriptF (shC c n) s).2 = 0 := by rw [hsc]; exact hs
    have hr := shC_planR (crew_of hs) h hn (scrOk_of hs).steps h0.1 s.steps 0 [] rfl rfl (fun y hy => (List.not_mem_nil hy).elim)
    cases hp : planR c s start s.steps 0 [] with
    | none =>
      rw [hp] at hr
      obtain ⟨a1, a2⟩ := planE_none hs n1 hp
      obtain ⟨b1, b2⟩ := planE_none hs' n2 hr
      rw [a1, a2, b1, b2]
      exact ⟨rfl, rfl⟩
    | some l =>
      rw [hp] at hr
      obtain ⟨a1, a2⟩ := planE_some hs n1 hp
      obtain ⟨b1, b2⟩ := planE_some hs' n2 hr
      rw [a1, a2, b1, b2]
      exact ⟨rfl, rfl⟩
  · obtain ⟨a1, a2⟩ := planE_bad (start := start) hs
    obtain ⟨b1, b2⟩ := planE_bad (c := shC c n) (start := start + n) (by rw [hsc]; exact hs)
    rw [a1, a2, b1, b2, hsc]
    exact ⟨rfl, rfl⟩
end Bx
namespace Bx
open Go Go.RowKit
/-- What there is more, a kind and a minute. -/
structure Xtr where
  who : Int
  sp : Spn
  gr : Int
  kind : Int
  min : Int
def xtrC (x : Xtr) : List Value := [.int .u8 x.who, .int .i64 x.sp.fr, .int .i64 x.sp.un, .int .u8 x.gr, .int .i64 x.kind, .int .i64 x.min]
def RXtr (_ : World) (cs : List Value) (x : Xtr) : Prop := cs = xtrC x ∧ (0 ≤ x.who ∧ x.who ≤ 255) ∧ (I64 x.sp.fr ∧ I64 x.sp.un) ∧ (0 ≤ x.gr ∧ x.gr ≤ 255) ∧ I64 x.kind ∧ I64 x.min
theorem opr_one {w : World} {cs : List Value} {o : Opr} (h : ROpr w cs o) : cs.all (·.oneCell') = true := by
  obtain ⟨dv, rfl, _, _, ⟨a, c, rfl, _⟩, _⟩ := h
  rfl
theorem oprs_one {w : World} : ∀ {css : List (List Value)} {l : List Opr}, Bx.Rows w 3 ROpr css l → css.flatten.all (·.oneCell') = true
  | [], [], _ => rfl
  | cs :: css, g :: l, ⟨_, h2, h3⟩ => by
    rw [List.flatten_cons, List.all_append, opr_one h2, oprs_one h3]; rfl
theorem spns_one {w : World} : ∀ {css : List (List Value)} {l : List Spn}, Bx.Rows w 2 RSpn css l → css.flatten.all (·.oneCell') = true
  | [], [], _ => rfl
  | cs :: css, g :: l, ⟨_, h2, h3⟩ => by
    obtain ⟨rfl, _⟩ := h2
    rw [List.flatten_cons, List.all_append, spns_one h3]; rfl
theorem spns_flat {w : World} : ∀ {css : List (List Value)} {l : List Spn}, Bx.Rows w 2 RSpn css l → css.flatten = l.flatMap spnC
  | [], [], _ => rfl
  | cs :: css, g :: l, ⟨_, h2, h3⟩ => by
    obtain ⟨rfl, _⟩ := h2
    rw [List.flatten_cons, List.flatMap_cons, spns_flat h3]
theorem sl_spns {w : World} {e : TypeId} {v : Value} {n : Nat} {l : List Spn} (h : w.ownsRow 0 e 2 v n (l.flatMap spnC)) (hn : l.length = n) (hok : ∀ s ∈ l, I64 s.fr ∧ I64 s.un) : Sl w 2 RSpn v l := by
  subst hn
  exact row_sl spnC_len h hok
theorem spns_64 {w : World} {v : Value} {l : List Spn} (h : Sl w 2 RSpn v l) : ∀ s ∈ l, I64 s.fr ∧ I64 s.un := sl_all h (fun _ _ hh => hh.2)
end Bx
namespace Bx
open Go Go.RowKit
structure Mor where
  who : Int
  sp : Spn
  gr : Int
def RMor (_ : World) (cs : List Value) (x : Mor) : Prop := cs = [.int .u8 x.who, .int .i64 x.sp.fr, .int .i64 x.sp.un, .int .u8 x.gr] ∧ (0 ≤ x.who ∧ x.who ≤ 255) ∧ (I64 x.sp.fr ∧ I64 x.sp.un) ∧ 0 ≤ x.gr ∧ x.gr ≤ 255
def ROprS (w : World) (cs : List Value) (o : Opr) : Prop := ROpr w cs o ∧ Room o.duty.length 16
def RCrewS (w : World) (cs : List Value) (c : Crew) : Prop := RCrew w cs c ∧ ∀ o ∈ c.ops, Room o.duty.length 16
theorem Sl.mono {α : Type} {w : World} {k : Nat} {R R' : World → List Value → α → Prop} {v : Value} {l : List α} (h : Sl w k R v l) (hr : ∀ cs x, R w cs x → R' w cs x) : Sl w k R' v l := by
  obtain ⟨a, cap, e, h1, h2, hel⟩ := h
  exact ⟨a, cap, e, h1, h2, fun i hi => by obtain ⟨b, o, cs, ha, hl, hc, hR⟩ := hel i hi; exact ⟨b, o, cs, ha, hl, hc, hr _ _ hR⟩⟩
end Bx
/- part C22 -/
namespace Bx
open Go Go.RowKit
abbrev LLV := List (List Value)
theorem flatten_get {k : Nat} : ∀ (css : List (List Value)) (i j : Nat) (cs : List Value), (∀ c ∈ css, c.length = k) → css[i]? = some cs → j < k → css.flatten[i * k + j]? = cs[j]?
  | [], i, j, cs, _, h, _ => by simp at h
  | c :: css, 0, j, cs, hl, h, hj => by
    obtain rfl : c = cs := by simpa using h
    rw [Nat.zero_mul, Nat.zero_add, List.flatten_cons, List.getElem?_append_left (by rw [hl c (List.mem_cons_self ..)]; exact hj)]
  | c :: css, i + 1, j, cs, hl, h, hj => by
    have hc := hl c (List.mem_cons_self ..)
    rw [List.flatten_cons, List.getElem?_append_right (by rw [hc, Nat.succ_mul]; omega), hc, show (i + 1) * k + j - k = i * k + j by rw [Nat.succ_mul]; omega]
    exact flatten_get css i j cs (fun x hx => hl x (List.mem_cons_of_mem _ hx)) (by simpa using h) hj
theorem lens_cells {k g : Nat} {w : World} {css : List (List Value)} (hl : ∀ c ∈ css, c.length = k) (hc : Cells w g 0 css.flatten) {i : Nat} {cs : List Value} (hi : css[i]? = some cs) : Cells w g (i * k) cs := by
  have hk := hl cs (List.mem_of_getElem? hi)
  intro j u hu
  have hj : j < k := by have := (List.getElem?_eq_some_iff.1 hu).1; omega
  have := hc (i * k + j) u (by rw [flatten_get css i j cs hl hi hj]; exact hu)
  rwa [Nat.zero_add] at this
theorem set_lens {k i : Nat} {css : List (List Value)} {cs : List Value} (hl : ∀ c ∈ css, c.length = k) (h : cs.length = k) : ∀ c ∈ css.set i cs, c.length = k := by
  intro c hc
  rcases List.mem_or_eq_of_mem_set hc with hc | rfl
  · exact hl c hc
  · exact h
theorem more_crew {c : Crew} {w0 w : World} {a : Option Addr} {cap i : Nat} {kv nv DV OV : Value} {css dcss : List (List Value)} {o : Opr} {g : Int} {sp : Spn} {e1 e2 : TypeId} (h : RCrew w0 [.slice a c.ops.length cap, kv, nv] c) (hr : Bx.Rows w0 3 ROpr css c.ops) (ho : c.ops[i]? = some o) (hnm : o.name.size ≤ 9223372036854775807)
    (hdr : Bx.Rows w0 2 RSpn dcss o.duty) (hg : I64 g) (hro : Room o.duty.length 16) (hsp : I64 sp.fr ∧ I64 sp.un) (e : Ext w0 w) (hD : w.ownsRow 0 e1 2 DV (o.duty.length + 1) (dcss.flatten ++ spnC sp)) (hO : w.ownsRow 0 e2 3 OV c.ops.length (css.set i [.string o.name, .int .i64 g, DV]).flatten) : RCrew w [OV, kv, nv] (moreC c i o g sp) := by
  obtain ⟨ov, kv2, nv2, he, hso, hsk, hsn, hrm⟩ := h
  cases he
  have hil := (List.getElem?_eq_some_iff.1 ho).1
  have hds : Sl w 2 RSpn DV (o.duty ++ [sp]) := by
    refine sl_spns (e := e1) (n := o.duty.length + 1) ?_ (by simp) (fun s hs => ?_)
    · rw [List.flatMap_append, ← spns_flat hdr]
      simpa using hD
    · rcases List.mem_append.1 hs with hs | hs
      · have key : ∀ {css : List (List Value)} {l : List Spn}, Bx.Rows w0 2 RSpn css l → ∀ s ∈ l, I64 s.fr ∧ I64 s.un := by
          intro css l
          induction l generalizing css with
          | nil => intro _ s hs; cases hs
          | cons x l ih =>
            intro hr s hs
            cases css with
            | nil => exact hr.elim
            | cons c css =>
              rcases List.mem_cons.1 hs with rfl | hs
              · exact hr.2.1.2
              · exact ih hr.2.2 s hs
        exact key hdr s hs
      · rw [List.mem_singleton.1 hs]; exact hsp
  have hrows : Bx.Rows w 3 ROpr (css.set i [.string o.name, .int .i64 g, DV]) (c.ops.set i ⟨o.name, g, o.duty ++ [sp]⟩) :=
    Rows.set (R := ROpr) (y := ⟨o.name, g, o.duty ++ [sp]⟩) rfl ⟨DV, rfl, hnm, hg, hds, by show (o.duty ++ [sp]).length * 16 ≤ 140737488353280; have h9 : o.duty.length * 16 ≤ 140737488351232 := hro; rw [List.length_append, List.length_singleton]; omega⟩ i (hr.ext ROpr.stays e)
  exact ⟨OV, kv, nv, rfl, sl_of_row hO hrows (by show (c.ops.set i _).length = _; rw [List.length_set]), hsk.ext RNam.stays e, hsn.ext RKnd.stays e, by show Room (c.ops.set i _).length 48; rw [List.length_set]; exact hrm⟩
end Bx
namespace Bx
open Go Go.RowKit
theorem rows_of {α : Type} {w : World} {k : Nat} {R : World → List Value → α → Prop} : ∀ {css : List (List Value)} {l : List α}, css.length = l.length → (∀ (i : Nat) x, l[i]? = some x → ∃ cs, css[i]? = some cs ∧ cs.length = k ∧ R w cs x) → Bx.Rows w k R css l
  | [], [], _, _ => trivial
  | c :: css, x :: l, hl, h => by
    obtain ⟨cs, h1, h2, h3⟩ := h 0 x rfl
    obtain rfl : c = cs := by simpa using h1
    exact ⟨h2, h3, rows_of (by simpa using hl) (fun i y hy => by have := h (i + 1) y (by simpa using hy); simpa using this)⟩
  | [], _ :: _, h, _ => by simp at h
  | _ :: _, [], h, _ => by simp at h
/-- What is known of operators whose first i are shifted. -/
structure ShK (n : Int) (w0 : World) (e : TypeId) (M : List Item) (i k : Nat) (o : Opr) (dv : Value) : Prop where
  nm : o.name.size ≤ 9223372036854775807
  gr : I64 o.grade
  room : RoomW o.duty.length 16
  yes : k < i → rowI dv e 2 o.duty.length ((o.duty.map (shS n)).flatMap spnC) ∈ M
  no : i ≤ k → Sl w0 2 RSpn dv o.duty
def ShA (c : Crew) (n : Int) (w0 : World) (e : TypeId) (css : List (List Value)) (M : List Item) (i : Nat) : Prop :=
  ∀ (k : Nat) o, c.ops[k]? = some o → ∃ dv, css[k]? = some [.string o.name, .int .i64 o.grade, dv] ∧ ShK n w0 e M i k o dv
theorem shA_0 {c : Crew} {n : Int} {w0 : World} {e : TypeId} {css : List (List Value)} (hr : Bx.Rows w0 3 ROpr css c.ops) : ShA c n w0 e css [] 0 := by
  intro k o ho
  have hk := (List.getElem?_eq_some_iff.1 ho).1
  obtain ⟨cs, h1, h2, h3, _⟩ := hr.get k hk
  obtain rfl : o = c.ops[k] := (List.getElem?_eq_some_iff.1 ho).2.symm
  obtain ⟨dv, rfl, a, b, d, r⟩ := h3
  exact ⟨dv, h1, a, b, r, fun h => absurd h (Nat.not_lt_zero k), fun _ => d⟩
theorem shA_s {c : Crew} {n : Int} {w0 : World} {e : TypeId} {css : List (List Value)} {M : List Item} {i : Nat} {o : Opr} {lv : Value} (h : ShA c n w0 e css M i) (ho : c.ops[i]? = some o) (hl : css.length = c.ops.length) :
    ShA c n w0 e (css.set i [.string o.name, .int .i64 o.grade, lv]) (M ++ [rowI lv e 2 o.duty.length ((o.duty.map (shS n)).flatMap spnC)]) (i + 1) := by
  intro k u hu
  have hi := (List.getElem?_eq_some_iff.1 ho).1
  obtain ⟨dv, h1, h2⟩ := h k u hu
  by_cases e1 : k = i
  · subst e1
    obtain rfl : o = u := Option.some.inj (ho.symm.trans hu)
    exact ⟨lv, by rw [List.getElem?_set_self (by omega)], h2.nm, h2.gr, h2.room, fun _ => List.mem_append_right _ (List.mem_singleton.2 rfl), fun hh => absurd hh (by omega)⟩
  · exact ⟨dv, by rw [List.getElem?_set_ne (Ne.symm e1)]; exact h1, h2.nm, h2.gr, h2.room, fun hh => List.mem_append_left _ (h2.yes (by omega)), fun hh => h2.no (by omega)⟩
theorem sh_crew {c : Crew} {n : Int} {w0 w : World} {a : Option Addr} {cap : Nat} {kv nv OV : Value} {css : List (List Value)} {M : List Item} {e e2 : TypeId} (h : RCrew w0 [.slice a c.ops.length cap, kv, nv] c) (hA : ShA c n w0 e css M c.ops.length) (hl : css.length = c.ops.length) (hx : Ext w0 w) (hM : ∀ it ∈ M, it.ok w)
    (hO : w.ownsRow 0 e2 3 OV c.ops.length css.flatten) : RCrew w [OV, kv, nv] (shC c n) := by
  obtain ⟨ov, kv2, nv2, he, hso, hsk, hsn, hrm⟩ := h
  cases he
  have hrows : Bx.Rows w 3 ROpr css (shC c n).ops := by
    refine rows_of (by show css.length = (c.ops.map (shO n)).length; rw [List.length_map]; exact hl) (fun i x hx => ?_)
    have hx' : (c.ops.map (shO n))[i]? = some x := hx
    rw [List.getElem?_map] at hx'
    cases ho : c.ops[i]? with
    | none => rw [ho] at hx'; cases hx'
    | some o =>
      rw [ho] at hx'
      obtain rfl : shO n o = x := by simpa using hx'
      obtain ⟨dv, h1, h2⟩ := hA i o ho
      have hi := (List.getElem?_eq_some_iff.1 ho).1
      have hrow : w.ownsRow 0 e 2 dv o.duty.length ((o.duty.map (shS n)).flatMap spnC) := hM _ (h2.yes hi)
      exact ⟨_, h1, rfl, dv, rfl, h2.nm, h2.gr, sl_spns hrow (by rw [show (shO n o).duty = o.duty.map (shS n) from rfl, List.length_map]) (fun s hs => by
        obtain ⟨t, _, rfl⟩ := List.mem_map.1 hs
        exact ⟨wr_64 _, wr_64 _⟩), by show RoomW (o.duty.map (shS n)).length 16; rw [List.length_map]; exact h2.room⟩
  exact ⟨OV, kv, nv, rfl, sl_of_row hO hrows (by show (c.ops.map (shO n)).length = _; rw [List.length_map]), hsk.ext RNam.stays hx, hsn.ext RKnd.stays hx, by show Room (c.ops.map (shO n)).length 48; rw [List.length_map]; exact hrm⟩
theorem planL_bd (c : Crew) (s : Scr) (start : Int) : ∀ y ∈ planL c s start, 0 ≤ y ∧ y ≤ 100000 := by
  intro y hy
  unfold planL at hy
  split at hy
  · cases hy
  rename_i h1
  have hs := Classical.not_not.1 h1
  split at hy
  · cases hy
  rename_i h2
  rw [Bool.not_eq_true] at h2
  cases hp : planR c s start s.steps 0 [] with
  | none => rw [hp] at hy; cases hy
  | some l =>
    rw [hp] at hy
    obtain ⟨g1, g2⟩ := (planR_spec (start := start) (scrOk_of hs) s.steps 0 [] rfl rfl (Nat.zero_le _) (good_nil c s start)).1 l hp
    exact good_bd hs g1 g2 y hy
theorem map_getD {l l2 : List Int} {n : Int} {j : Nat} (h1 : l2.length = l.length) (hj : l.length ≤ j) (h : ∀ q, q < l.length → l2[q]? = some (if q < j then l.getD q 0 + n else l.getD q 0)) : l2 = l.map (· + n) := by
  refine eq_of_get (by simpa using h1) (fun q hq => ?_)
  rw [h q (by omega), if_pos (by omega), List.getElem?_map, List.getElem?_eq_getElem (show q < l.length by omega), getD_at _ _ (by omega)]
  rfl
end Bx
namespace Bx
open Go Go.RowKit
theorem rows_len {α : Type} {w : World} {k : Nat} {R : World → List Value → α → Prop} : ∀ {css : List (List Value)} {l : List α}, Bx.Rows w k R css l → css.length = l.length
  | [], [], _ => rfl
  | c :: css, x :: l, ⟨_, _, h⟩ => by rw [List.length_cons, List.length_cons, rows_len h]
  | [], _ :: _, h => h.elim
  | _ :: _, [], h => h.elim
end Bx
namespace Bx
open Go Go.RowKit
theorem planL_len (c : Crew) (s : Scr) (start : Int) : (planL c s start).length ≤ 10 := by
  unfold planL
  split
  · exact Nat.zero_le _
  rename_i h1
  have hs := Classical.not_not.1 h1
  split
  · exact Nat.zero_le _
  cases hp : planR c s start s.steps 0 [] with
  | none => exact Nat.zero_le _
  | some l =>
    obtain ⟨g1, g2⟩ := (planR_spec (start := start) (scrOk_of hs) s.steps 0 [] rfl rfl (Nat.zero_le _) (good_nil c s start)).1 l hp
    have := (scrOk_of hs).len
    dsimp only
    omega
end Bx
/- part C23 -/
namespace Bx
open Go Go.RowKit
theorem inB_not {a lo hi : Int} : (!inB a lo hi) = outB a lo hi := by
  rw [Bool.eq_iff_iff]
  simp only [Bool.not_eq_true', inB, outB, Bool.and_eq_false_iff, Bool.or_eq_true, decide_eq_true_eq, decide_eq_false_iff_not]
  omega
def errR {α : Type} (nm : α → ByteArray) (rest : α → Int) (l : List α) (i : Nat) (x : α) : Int := if (!isName (nm x)) = true then 6 else if memB (nm x) ((l.take i).map nm) = true then 5 else rest x
theorem errR_form {α : Type} {nm : α → ByteArray} {rest : α → Int} {l : List α} {i : Nat} {x : α} (h : (!isName (nm x)) = true) : errR nm rest l i x = 6 := if_pos h
theorem errR_twice {α : Type} {nm : α → ByteArray} {rest : α → Int} {l : List α} {i k : Nat} {x u : α} (h : (!isName (nm x)) = false) (hu : l[k]? = some u) (hk : k < i) (he : nm u = nm x) : errR nm rest l i x = 5 := by
  unfold errR
  rw [if_neg (by rw [h]; decide), if_pos]
  rw [memB_iff, ← he]
  exact List.mem_map.2 ⟨u, List.mem_of_getElem? (i := k) (by rw [List.getElem?_take, if_pos hk]; exact hu), rfl⟩
theorem errR_rest {α : Type} {nm : α → ByteArray} {rest : α → Int} {l : List α} {i : Nat} {x : α} (h : (!isName (nm x)) = false) (hn : ∀ k, k < i → ∀ u, l[k]? = some u → nm u ≠ nm x) : errR nm rest l i x = rest x := by
  unfold errR
  rw [if_neg (by rw [h]; decide), if_neg]
  rw [memB_iff]
  intro hm
  obtain ⟨u, hu, he⟩ := List.mem_map.1 hm
  obtain ⟨k, hk, rfl⟩ := List.getElem_of_mem hu
  rw [List.length_take] at hk
  rw [List.getElem_take] at he
  exact hn k (by omega) _ (List.getElem?_eq_getElem (by omega)) he
theorem namedR_step {α : Type} {nm : α → ByteArray} {rest : α → Int} {l : List α} {k : Nat} {x : α} (hx : l[k]? = some x) (hd : l.drop k = x :: l.drop (k + 1)) (h0 : errR nm rest l k x = 0) :
    namedR nm rest (l.drop k) ((l.take k).map nm) k = namedR nm rest (l.drop (k + 1)) ((l.take (k + 1)).map nm) ((k + 1 : Nat) : Int) := by
  rw [hd, namedR, namedR_take hx]
  unfold errR at h0
  split at h0
  · cases h0
  split at h0
  · cases h0
  rename_i h1 h2
  rw [if_neg h1, if_neg h2, if_neg (not_not_intro h0)]
  rfl
theorem namedR_hit {α : Type} {nm : α → ByteArray} {rest : α → Int} {l : List α} {k : Nat} {x : α} (hd : l.drop k = x :: l.drop (k + 1)) (h0 : errR nm rest l k x ≠ 0) :
    namedR nm rest (l.drop k) ((l.take k).map nm) k = ((k : Int), errR nm rest l k x) := by
  rw [hd, namedR]
  unfold errR at h0 ⊢
  split
  · rename_i h; rfl
  rename_i h1
  rw [if_neg h1] at h0
  split
  · rfl
  rename_i h2
  rw [if_neg h2] at h0
  rw [if_pos h0]
theorem namedR_end {α : Type} {nm : α → ByteArray} {rest : α → Int} {l : List α} {k : Nat} (hk : l.length ≤ k) : namedR nm rest (l.drop k) ((l.take k).map nm) k = (0, 0) := by
  rw [List.drop_of_length_le hk]; rfl
theorem spnBad_in (s : Spn) : ((!inB s.fr 0 100000) || (!inB s.un s.fr 100000)) = spnBad s := by
  rw [inB_not, inB_not, Bool.eq_iff_iff]
  simp only [spnBad, neverB, outB, Bool.or_eq_true, decide_eq_true_eq]
  omega
theorem oprE_1 {o : Opr} (h : (!inB o.grade 1 9) = true) : oprE o = 7 := by unfold oprE; rw [if_pos (by rw [← inB_not]; exact h)]
theorem oprE_2 {o : Opr} (h : (!inB o.grade 1 9) = false) (h2 : (6 : Int) < o.duty.length) : oprE o = 3 := by unfold oprE; rw [if_neg (by rw [← inB_not, h]; decide), if_pos h2]
theorem oprE_3 {o : Opr} (h : (!inB o.grade 1 9) = false) (h2 : ¬ (6 : Int) < o.duty.length) {s : Spn} (hs : s ∈ o.duty) (hb : spnBad s = true) : oprE o = 7 := by
  unfold oprE
  rw [if_neg (by rw [← inB_not, h]; decide), if_neg h2, if_pos (List.any_eq_true.2 ⟨s, hs, hb⟩)]
theorem oprE_0 {o : Opr} (h : (!inB o.grade 1 9) = false) (h2 : ¬ (6 : Int) < o.duty.length) (hs : ∀ k, k < o.duty.length → ∀ s, o.duty[k]? = some s → spnBad s = false) : oprE o = 0 := by
  unfold oprE
  rw [if_neg (by rw [← inB_not, h]; decide), if_neg h2, if_neg]
  intro ha
  obtain ⟨s, hs', hb⟩ := List.any_eq_true.1 ha
  obtain ⟨k, hk, rfl⟩ := List.getElem_of_mem hs'
  rw [hs k hk _ (List.getElem?_eq_getElem hk)] at hb
  cases hb
theorem kndR_in (k : Knd) : ((((!inB k.grade 1 9) || (!inB k.second 0 9)) || (!inB k.within 0 1000)) || (decide (k.second = 0) && decide (k.within ≠ 0))) = kndR k := by
  rw [inB_not, inB_not, inB_not, Bool.eq_iff_iff]
  simp only [kndR, outB, Bool.or_eq_true, Bool.and_eq_true, decide_eq_true_eq]
  omega
theorem kndE_1 {nk : Int} {k : Knd} (h : kndR k = true) : kndE nk k = 7 := by unfold kndE; rw [if_pos h]
theorem kndE_2 {nk : Int} {k : Knd} (h : kndR k = false) {x : Int} (hx : x ∈ k.keys) (hb : outB x 0 (nk - 1) = true) : kndE nk k = 4 := by
  unfold kndE; rw [if_neg (by rw [h]; decide), if_pos (List.any_eq_true.2 ⟨x, hx, hb⟩)]
theorem key_any {nk : Int} {k : Knd} (hs : ∀ j, j < k.keys.length → ∀ x, k.keys[j]? = some x → outB x 0 (nk - 1) = false) : ¬ (k.keys.any fun x => outB x 0 (nk - 1)) = true := by
  intro ha
  obtain ⟨s, hs', hb⟩ := List.any_eq_true.1 ha
  obtain ⟨j, hj, rfl⟩ := List.getElem_of_mem hs'
  rw [hs j hj _ (List.getElem?_eq_getElem hj)] at hb
  cases hb
theorem nodup_not {l : List Int} {j : Nat} {x : Int} (hx : l[j]? = some x) (hm : x ∈ l.take j) : ¬ l.Nodup := by
  intro hn
  obtain ⟨i, hi, e⟩ := List.getElem_of_mem hm
  rw [List.length_take] at hi
  rw [List.getElem_take] at e
  obtain ⟨hj, rfl⟩ := List.getElem?_eq_some_iff.1 hx
  exact List.pairwise_iff_getElem.1 hn i j (by omega) hj (by omega) e
theorem nodup_yes {l : List Int} (h : ∀ j, j < l.length → ∀ x, l[j]? = some x → x ∉ l.take j) : l.Nodup := by
  refine List.pairwise_iff_getElem.2 (fun i j hi hj hij e => ?_)
  exact h j hj _ (List.getElem?_eq_getElem hj) (List.mem_of_getElem? (i := i) (by rw [List.getElem?_take, if_pos hij, List.getElem?_eq_getElem hi, e]))
theorem kndE_3 {nk : Int} {k : Knd} (h : kndR k = false) (h2 : ¬ (k.keys.any fun x => outB x 0 (nk - 1)) = true) (hn : ¬ k.keys.Nodup) : kndE nk k = 5 := by
  unfold kndE; rw [if_neg (by rw [h]; decide), if_neg h2, if_pos hn]
theorem kndE_4 {nk : Int} {k : Knd} (h : kndR k = false) (h2 : ¬ (k.keys.any fun x => outB x 0 (nk - 1)) = true) (hn : k.keys.Nodup) (hs : kndS k = true) : kndE nk k = 2 := by
  unfold kndE; rw [if_neg (by rw [h]; decide), if_neg h2, if_neg (not_not_intro hn), if_pos hs]
theorem kndE_0 {nk : Int} {k : Knd} (h : kndR k = false) (h2 : ¬ (k.keys.any fun x => outB x 0 (nk - 1)) = true) (hn : k.keys.Nodup) (hs : kndS k = false) : kndE nk k = 0 := by
  unfold kndE; rw [if_neg (by rw [h]; decide), if_neg h2, if_neg (not_not_intro hn), if_neg (by rw [hs]; decide)]
theorem hasB_take {l : List Int} {j : Nat} {x n : Int} (h : l[j]? = some x) : (l.take (j + 1)).any (fun y => decide (y = n)) = ((l.take j).any (fun y => decide (y = n)) || decide (x = n)) := by
  rw [take_snoc h, List.any_append, List.any_cons, List.any_nil, Bool.or_false]
theorem any_mem {l : List Int} {n : Int} : (l.any fun y => decide (y = n)) = true ↔ n ∈ l := by simp [List.any_eq_true]
theorem sizeBad_in (c : Crew) : (((!inB c.ops.length 1 8) || decide ((8 : Int) < c.keys.length)) || (!inB c.kinds.length 1 8)) = sizeBad c := by rw [inB_not, inB_not]; rfl
theorem checkC_1 {c : Crew} (h : sizeBad c = true) : checkC c = (1, 0, 3) := by unfold checkC; rw [if_pos h]
theorem checkC_2 {c : Crew} {k : Int} {e : Int} (h : sizeBad c = false) (h2 : namedR (·.name) oprE c.ops [] 0 = (k, e)) (he : e ≠ 0) : checkC c = (2, k, e) := by
  unfold checkC; rw [if_neg (by rw [h]; decide), if_pos (by rw [h2]; exact he), h2]
theorem checkC_3 {c : Crew} {k : Int} {e : Int} (h : sizeBad c = false) (h2 : (namedR (·.name) oprE c.ops [] 0).2 = 0) (h3 : namedR id (fun _ => 0) c.keys [] 0 = (k, e)) (he : e ≠ 0) : checkC c = (3, k, e) := by
  unfold checkC; rw [if_neg (by rw [h]; decide), if_neg (not_not_intro h2), if_pos (by rw [h3]; exact he), h3]
theorem checkC_4 {c : Crew} {k : Int} {e : Int} (h : sizeBad c = false) (h2 : (namedR (·.name) oprE c.ops [] 0).2 = 0) (h3 : (namedR id (fun _ => 0) c.keys [] 0).2 = 0) (h4 : namedR (·.name) (kndE c.keys.length) c.kinds [] 0 = (k, e)) (he : e ≠ 0) : checkC c = (4, k, e) := by
  unfold checkC; rw [if_neg (by rw [h]; decide), if_neg (not_not_intro h2), if_neg (not_not_intro h3), if_pos (by rw [h4]; exact he), h4]
theorem checkC_0 {c : Crew} (h : sizeBad c = false) (h2 : (namedR (·.name) oprE c.ops [] 0).2 = 0) (h3 : (namedR id (fun _ => 0) c.keys [] 0).2 = 0) (h4 : (namedR (·.name) (kndE c.keys.length) c.kinds [] 0).2 = 0) : checkC c = (0, 0, 0) := by
  unfold checkC; rw [if_neg (by rw [h]; decide), if_neg (not_not_intro h2), if_neg (not_not_intro h3), if_neg (not_not_intro h4)]
def ableR (c : Crew) (k m : Int) : Int × Int × Bool := match pairsL c (kndAt c k) m with
  | [] => (0, 0, false)
  | p :: _ => (p.1, p.2, true)
end Bx
/- part Ck37 -/
namespace Go.Proofs.Ytghgnofilbnbaaa
open Go Bx
/-- barrage/barrageref10.minute -/
theorem c_rminute {m : Int} {w0 : World} : CV Try.prog 46 #[.int .i64 m] w0 (.bool (inB m 0 100000)) := by
  refine enter Try.func46 rfl Try.ntmps46 rfl ?_
  have hS := St.start w0
  refine seq ?_
  refine region ?_
  refine sv (yAsg rfl) ?_
  refine nil ?_
  show Code.wp _ _ _ _ _
  refine seq ?_
  refine region ?_
  refine sv (yMove rfl) ?_
  refine scall Try.call54 (.cons rfl (.cons rfl (.cons rfl .nil))) c_in ?_
  rintro _ w ⟨rfl, hE⟩; replace hS := hS.step hE; clear hE
  refine sv (yAsg rfl) ?_
  refine nil ?_
  show Code.wp _ _ _ _ _
  refine wp_ret ?_
  exact retV (res1 rfl rfl) hS.ext
/-- barrage/barrageref10.has -/
theorem c_has {l : List Int} {v : Value} {n0 : Int} {w0 : World} (hl : Sl w0 1 RInt v l) : CV Try.prog 92 #[v, .int .i64 n0] w0 (.bool (l.any fun y => decide (y = n0))) := by
  obtain ⟨al, cl, rfl, hlcap, hlmx, hel⟩ := id hl
  refine enter Try.func92 rfl Try.ntmps92 rfl ?_
  have hS := St.start w0
  refine seq ?_
  refine region ?_
  refine sv (yAsg rfl) ?_
  refine nil ?_
  show Code.wp _ _ _ _ _
  refine seq ?_
  refine seq ?_
  refine region ?_
  refine sv (yAsg rfl) ?_
  refine nil ?_
  show Code.wp _ _ _ _ _
  refine block ?_
  refine loop (fun f w zz => ∃ (k : Nat), f 0 = .slice al l.length cl ∧ f 1 = .int .i64 n0 ∧ f 5 = .int .i64 (k : Int) ∧ StX [] w0 w [] ∧ (k ≤ l.length) ∧ ((l.take k).any (fun y => decide (y = n0)) = false) ∧ zz = l.length - k) _ ⟨_, rfl, 0, rfl, rfl, rfl, hS, (Nat.zero_le _), (rfl), rfl⟩ ?_
  clear hS
  rintro f w _ ⟨k, h0, h1, h5, hS, hk, hN, rfl⟩
  refine seq ?_
  refine seq ?_
  refine region ?_
  refine sv (yMove h5) ?_
  refine sv (yMove h0) ?_
  refine sv (yLen rfl Try.underlying30) ?_
  refine sv (yLss rfl rfl) ?_
  refine nil ?_
  show Code.wp _ _ _ _ _
  refine cond rfl (fun c9 => ?_) (fun c9 => ?_)
  ·
    simp only [Bool.and_eq_true, Bool.or_eq_true, Bool.and_eq_false_iff, Bool.or_eq_false_iff, decide_eq_true_eq, decide_eq_false_iff_not, Bool.not_eq_true, Bool.not_eq_false, Bool.not_not, Bool.not_eq_eq_eq_not, Bool.not_true, Bool.not_false, Bool.false_eq_true, Bool.true_eq_false, ne_eq, Decidable.not_not, not_false_eq_true, not_true_eq_false] at c9
    refine skip ?_
    show Code.wp _ _ _ _ _
    refine seq ?_
    refine block ?_
    refine seq ?_
    refine region ?_
    obtain ⟨x, hxq, hdq⟩ := drop_of (l := l) (k := k) (by omega)
    obtain ⟨bq, oq, csq, haq, hlenq, hcsq, hRq⟩ := hel (k) (by omega)
    obtain rfl : x = l[k] := (List.getElem?_eq_some_iff.1 hxq).2.symm
    generalize l[k] = x at hxq hdq hRq
    obtain ⟨rfl, hxi⟩ := hRq
    refine sv (yMove h0) ?_
    refine sv (yMove h5) ?_
    refine sv (yIxa rfl haq rfl Try.runUnderlying30 Try.sizeOf3 (by omega) (by omega)) ?_
    refine sv (yLd rfl Try.isAgg3 ((hcsq.ext hS.ext).one)) ?_
    refine sv (yMove h1) ?_
    refine sv (yEql rfl rfl) ?_
    refine nil ?_
    show Code.wp _ _ _ _ _
    refine cond rfl (fun c17 => ?_) (fun c17 => ?_)
    ·
      simp only [Bool.and_eq_true, Bool.or_eq_true, Bool.and_eq_false_iff, Bool.or_eq_false_iff, decide_eq_true_eq, decide_eq_false_iff_not, Bool.not_eq_true, Bool.not_eq_false, Bool.not_not, Bool.not_eq_eq_eq_not, Bool.not_true, Bool.not_false, Bool.false_eq_true, Bool.true_eq_false, ne_eq, Decidable.not_not, not_false_eq_true, not_true_eq_false] at c17
      refine seq ?_
      refine region ?_
      refine sv (yAsg rfl) ?_
      refine nil ?_
      show Code.wp _ _ _ _ _
      refine wp_ret (blockR (thenR (thenR (blockR (thenR ?_)))))
      exact retV (res1 rfl (eqB (any_mem.2 (by rw [← c17]; exact List.mem_of_getElem? hxq)))) hS.ext
    ·
      simp only [Bool.and_eq_true, Bool.or_eq_true, Bool.and_eq_false_iff, Bool.or_eq_false_iff, decide_eq_true_eq, decide_eq_false_iff_not, Bool.not_eq_true, Bool.not_eq_false, Bool.not_not, Bool.not_eq_eq_eq_not, Bool.not_true, Bool.not_false, Bool.false_eq_true, Bool.true_eq_false, ne_eq, Decidable.not_not, not_false_eq_true, not_true_eq_false] at c17
      refine skip ?_
      show Code.wp _ _ _ _ _
      refine region ?_
      refine sv (yMove h5) ?_
      refine sv (yAdd rfl rfl ⟨by omega, by omega⟩) ?_
      refine sv (yAsg rfl) ?_
      refine nil ?_
      exact ⟨_, _, rfl, ⟨k + 1, h0, h1, rfl, hS, (by omega), (by rw [hasB_take hxq, hN, decide_eq_false c17]; rfl), rfl⟩, by omega⟩
  ·
    simp only [Bool.and_eq_true, Bool.or_eq_true, Bool.and_eq_false_iff, Bool.or_eq_false_iff, decide_eq_true_eq, decide_eq_false_iff_not, Bool.not_eq_true, Bool.not_eq_false, Bool.not_not, Bool.not_eq_eq_eq_not, Bool.not_true, Bool.not_false, Bool.false_eq_true, Bool.true_eq_false, ne_eq, Decidable.not_not, not_false_eq_true, not_true_eq_false] at c9
    refine exit ?_
    show Code.wp _ _ _ _ _
    refine seq ?_
    refine region ?_
    refine sv (yAsg rfl) ?_
    refine nil ?_
    show Code.wp _ _ _ _ _
    obtain rfl : k = l.length := by omega
    rw [List.take_length] at hN
    refine wp_ret ?_
    exact retV (res1 rfl (eqB hN)) hS.ext
set_option maxHeartbeats 1000000 in
/-- barrage/barrageref10.operator -/
theorem c_roper {c : Crew} {cs : List Value} {i : Nat} {x : Opr} {w0 : World} (h : RCrew w0 cs c) (hx : c.ops[i]? = some x) : CV Try.prog 67 #[.agg cs.toArray, .int .i64 (i : Int)] w0 (.int .i64 (errR (·.name) oprE c.ops i x)) := by
  obtain ⟨ov, kv, nv, rfl, hso, hsk, hsn, hrm⟩ := id h
  obtain ⟨a, cap, rfl, hcap, hmx, hel⟩ := id hso
  have hil := (List.getElem?_eq_some_iff.1 hx).1
  obtain ⟨y, hxq, hdq⟩ := drop_of (l := c.ops) (k := i) (by omega)
  obtain ⟨bq, oq, csq, haq, hlenq, hcsq, hRq⟩ := hel (i) (by omega)
  obtain rfl : y = c.ops[i] := (List.getElem?_eq_some_iff.1 hxq).2.symm
  generalize c.ops[i] = y at hxq hdq hRq
  have hR := hRq
  obtain rfl : x = y := Option.some.inj (hx.symm.trans hxq)
  obtain ⟨dv, rfl, hnm, hgr, hsd, -⟩ := id hR
  obtain ⟨ad, cd, rfl, hdcap, hdmx, held⟩ := id hsd
  refine enter Try.func67 rfl Try.ntmps67 rfl ?_
  have hS := St.start w0
  refine seq ?_
  refine region ?_
  refine sbox hS rfl rfl ?_; clear hS; intro b2 w hS
  refine sv (yAsg rfl) ?_
  refine nil ?_
  show Code.wp _ _ _ _ _
  refine seq ?_
  refine region ?_
  refine sv (fa26_0 rfl) ?_
  refine sv (yLdB rfl Try.isAgg22 (hS.at _) rfl) ?_
  refine sv (yMove rfl) ?_
  refine sv (yIxa rfl haq rfl Try.runUnderlying22 Try.sizeOf42 (by omega) (by omega)) ?_
  refine sv (yLdA rfl Try.isAgg42 Try.sizeOf42 (hcsq.ext hS.ext) rfl) ?_
  refine salloc hS Try.zeroValue42 rfl ?_; clear hS; intro b5 w hS
  refine sst hS rfl rfl Try.sizeOf42 rfl rfl rfl rfl ?_; clear hS; intro w hS
  refine nil ?_
  show Code.wp _ _ _ _ _
  refine seq ?_
  refine seq ?_
  refine region ?_
  replace hS : StX [] w0 w (blk b5 [.string x.name, .int .i64 x.grade, .slice ad x.duty.length cd] 42 :: blk b2 [.slice a c.ops.length cap, kv, nv] 26 :: []) := hS
  refine sv (fa42_0 rfl) ?_
  refine sv (yLdB rfl Try.isAgg9 (hS.at _) rfl) ?_
  refine scall Try.call53 (.cons rfl .nil) (c_rName hnm) ?_
  rintro _ w ⟨rfl, hE⟩; replace hS := hS.step hE; clear hE
  refine sv (yNot rfl) ?_
  refine nil ?_
  show Code.wp _ _ _ _ _
  refine cond rfl (fun c16 => ?_) (fun c16 => ?_)
  ·
    refine seq ?_
    refine region ?_
    refine sv (yAsg rfl) ?_
    refine nil ?_
    show Code.wp _ _ _ _ _
    refine wp_ret (thenR ?_)
    exact retV (res1 rfl (eqI (errR_form c16))) hS.ext
  ·
    refine skip ?_
    show Code.wp _ _ _ _ _
    refine seq ?_
    refine seq ?_
    refine region ?_
    refine sv (yAsg rfl) ?_
    refine nil ?_
    show Code.wp _ _ _ _ _
    refine block ?_
    refine loop (fun f w zz => ∃ (k : Nat), f 1 = .int .i64 (i : Int) ∧ f 2 = .pointer (some ⟨b2, 0, none⟩) ∧ f 5 = .pointer (some ⟨b5, 0, none⟩) ∧ f 6 = .int .i64 (k : Int) ∧ StX [] w0 w [blk b5 [.string x.name, .int .i64 x.grade, .slice ad x.duty.length cd] 42, blk b2 [.slice a c.ops.length cap, kv, nv] 26] ∧ (k ≤ i) ∧ (∀ q, q < k → ∀ u : Opr, c.ops[q]? = some u → u.name ≠ x.name) ∧ zz = i - k) _ ⟨_, rfl, 0, rfl, rfl, rfl, rfl, hS, (Nat.zero_le _), (fun q hq => absurd hq (Nat.not_lt_zero q)), rfl⟩ ?_
    clear hS
    rintro f w _ ⟨k, h1, h2, h5, h6, hS, hk, hN, rfl⟩
    refine seq ?_
    refine seq ?_
    refine region ?_
    refine sv (yMove h6) ?_
    refine sv (yMove h1) ?_
    refine sv (yLss rfl rfl) ?_
    refine nil ?_
    show Code.wp _ _ _ _ _
    refine cond rfl (fun c19 => ?_) (fun c19 => ?_)
    ·
      simp only [Bool.and_eq_true, Bool.or_eq_true, Bool.and_eq_false_iff, Bool.or_eq_false_iff, decide_eq_true_eq, decide_eq_false_iff_not, Bool.not_eq_true, Bool.not_eq_false, Bool.not_not, Bool.not_eq_eq_eq_not, Bool.not_true, Bool.not_false, Bool.false_eq_true, Bool.true_eq_false, ne_eq, Decidable.not_not, not_false_eq_true, not_true_eq_false] at c19
      refine skip ?_
      show Code.wp _ _ _ _ _
      refine seq ?_
      refine block ?_
      refine seq ?_
      refine region_draw mixed (by kernel_rfl) hS ?_
      obtain ⟨u, hxu, hdu⟩ := drop_of (l := c.ops) (k := k) (by omega)
      obtain ⟨bu, ou, csu, hau, hlenu, hcsu, hRu⟩ := hel (k) (by omega)
      obtain rfl : u = c.ops[k] := (List.getElem?_eq_some_iff.1 hxu).2.symm
      generalize c.ops[k] = u at hxu hdu hRu
      have hRv := hRu
      obtain ⟨duv, rfl, -⟩ := id hRv
      refine qv (fun w hS => (fa26_0 h2)) ?_
      refine qv (fun w hS => (yLdB rfl Try.isAgg22 (hS.at _) rfl)) ?_
      refine qv (fun w hS => (yMove h6)) ?_
      refine qv (fun w hS => (yIxa rfl hau rfl Try.runUnderlying22 Try.sizeOf42 (by omega) (by omega))) ?_
      refine qv (fun w hS => (fa42_0 rfl)) ?_
      refine qv (fun w hS => (yLd rfl Try.isAgg9 ((hcsu.ext hS.ext).at (j := 0) rfl))) ?_
      refine qv (fun w hS => (fa42_0 h5)) ?_
      refine qv (fun w hS => (yLdB rfl Try.isAgg9 (hS.at _) rfl)) ?_
      refine qv (fun w hS => (ySEq rfl rfl)) ?_
      clear hS; refine qnil (fun w hS => ?_)
      show Code.wp _ _ _ _ _
      refine cond rfl (fun c30 => ?_) (fun c30 => ?_)
      ·
        simp only [Bool.and_eq_true, Bool.or_eq_true, Bool.and_eq_false_iff, Bool.or_eq_false_iff, decide_eq_true_eq, decide_eq_false_iff_not, Bool.not_eq_true, Bool.not_eq_false, Bool.not_not, Bool.not_eq_eq_eq_not, Bool.not_true, Bool.not_false, Bool.false_eq_true, Bool.true_eq_false, ne_eq, Decidable.not_not, not_false_eq_true, not_true_eq_false] at c30
        refine seq ?_
        refine region ?_
        refine sv (yAsg rfl) ?_
        refine nil ?_
        show Code.wp _ _ _ _ _
        refine wp_ret (blockR (thenR (thenR (blockR (thenR ?_)))))
        exact retV (res1 rfl (eqI (errR_twice c16 hxu (by omega) c30))) hS.ext
      ·
        simp only [Bool.and_eq_true, Bool.or_eq_true, Bool.and_eq_false_iff, Bool.or_eq_false_iff, decide_eq_true_eq, decide_eq_false_iff_not, Bool.not_eq_true, Bool.not_eq_false, Bool.not_not, Bool.not_eq_eq_eq_not, Bool.not_true, Bool.not_false, Bool.false_eq_true, Bool.true_eq_false, ne_eq, Decidable.not_not, not_false_eq_true, not_true_eq_false] at c30
        refine skip ?_
        show Code.wp _ _ _ _ _
        refine region ?_
        refine sv (yMove h6) ?_
        refine sv (yAdd rfl rfl ⟨by omega, by omega⟩) ?_
        refine sv (yAsg rfl) ?_
        refine nil ?_
        exact ⟨_, _, rfl, ⟨k + 1, h1, h2, h5, rfl, hS, (by omega), (snoc hN (fun v hv => by cases Option.some.inj (hxu.symm.trans hv); exact c30)), rfl⟩, by omega⟩
    ·
      simp only [Bool.and_eq_true, Bool.or_eq_true, Bool.and_eq_false_iff, Bool.or_eq_false_iff, decide_eq_true_eq, decide_eq_false_iff_not, Bool.not_eq_true, Bool.not_eq_false, Bool.not_not, Bool.not_eq_eq_eq_not, Bool.not_true, Bool.not_false, Bool.false_eq_true, Bool.true_eq_false, ne_eq, Decidable.not_not, not_false_eq_true, not_true_eq_false] at c19
      have hne : errR (·.name) oprE c.ops i x = oprE x := errR_rest c16 (fun q hq => hN q (by omega))
      refine exit ?_
      show Code.wp _ _ _ _ _
      refine seq ?_
      refine seq ?_
      refine region ?_
      refine sv (fa42_1 h5) ?_
      refine sv (yLdB rfl Try.isAgg3 (hS.at _) rfl) ?_
      refine scall Try.call54 (.cons rfl (.cons rfl (.cons rfl .nil))) c_in ?_
      rintro _ w ⟨rfl, hE⟩; replace hS := hS.step hE; clear hE
      refine sv (yNot rfl) ?_
      refine nil ?_
      show Code.wp _ _ _ _ _
      refine cond rfl (fun c34 => ?_) (fun c34 => ?_)
      ·
        refine seq ?_
        refine region ?_
        refine sv (yAsg rfl) ?_
        refine nil ?_
        show Code.wp _ _ _ _ _
        refine wp_ret (thenR ?_)
        exact retV (res1 rfl (eqI (hne.trans (oprE_1 c34)))) hS.ext
      ·
        refine skip ?_
        show Code.wp _ _ _ _ _
        refine seq ?_
        refine seq ?_
        refine region ?_
        refine sv (fa42_2 h5) ?_
        refine sv (yLdB rfl Try.isAgg40 (hS.at _) rfl) ?_
        refine sv (yLen rfl Try.underlying40) ?_
        refine sv (yGtr rfl rfl) ?_
        refine nil ?_
        show Code.wp _ _ _ _ _
        refine cond rfl (fun c38 => ?_) (fun c38 => ?_)
        ·
          simp only [Bool.and_eq_true, Bool.or_eq_true, Bool.and_eq_false_iff, Bool.or_eq_false_iff, decide_eq_true_eq, decide_eq_false_iff_not, Bool.not_eq_true, Bool.not_eq_false, Bool.not_not, Bool.not_eq_eq_eq_not, Bool.not_true, Bool.not_false, Bool.false_eq_true, Bool.true_eq_false, ne_eq, Decidable.not_not, not_false_eq_true, not_true_eq_false] at c38
          refine seq ?_
          refine region ?_
          refine sv (yAsg rfl) ?_
          refine nil ?_
          show Code.wp _ _ _ _ _
          refine wp_ret (thenR ?_)
          exact retV (res1 rfl (eqI (hne.trans (oprE_2 c34 c38)))) hS.ext
        ·
          simp only [Bool.and_eq_true, Bool.or_eq_true, Bool.and_eq_false_iff, Bool.or_eq_false_iff, decide_eq_true_eq, decide_eq_false_iff_not, Bool.not_eq_true, Bool.not_eq_false, Bool.not_not, Bool.not_eq_eq_eq_not, Bool.not_true, Bool.not_false, Bool.false_eq_true, Bool.true_eq_false, ne_eq, Decidable.not_not, not_false_eq_true, not_true_eq_false] at c38
          refine skip ?_
          show Code.wp _ _ _ _ _
          refine seq ?_
          refine seq ?_
          refine region ?_
          refine sv (yAsg rfl) ?_
          refine nil ?_
          show Code.wp _ _ _ _ _
          refine block ?_
          refine loop (fun f w zz => ∃ (j : Nat), f 5 = .pointer (some ⟨b5, 0, none⟩) ∧ f 7 = .int .i64 (j : Int) ∧ StX [] w0 w [blk b5 [.string x.name, .int .i64 x.grade, .slice ad x.duty.length cd] 42, blk b2 [.slice a c.ops.length cap, kv, nv] 26] ∧ (j ≤ x.duty.length) ∧ (∀ q, q < j → ∀ s, x.duty[q]? = some s → spnBad s = false) ∧ zz = x.duty.length - j) _ ⟨_, rfl, 0, h5, rfl, hS, (Nat.zero_le _), (fun q hq => absurd hq (Nat.not_lt_zero q)), rfl⟩ ?_
          clear hS
          rintro f w _ ⟨j, h5, h7, hS, hj, hM, rfl⟩
          refine seq ?_
          refine seq ?_
          refine region ?_
          refine sv (yMove h7) ?_
          refine sv (fa42_2 h5) ?_
          refine sv (yLdB rfl Try.isAgg40 (hS.at _) rfl) ?_
          refine sv (yLen rfl Try.underlying40) ?_
          refine sv (yLss rfl rfl) ?_
          refine nil ?_
          show Code.wp _ _ _ _ _
          refine cond rfl (fun c43 => ?_) (fun c43 => ?_)
          ·
            simp only [Bool.and_eq_true, Bool.or_eq_true, Bool.and_eq_false_iff, Bool.or_eq_false_iff, decide_eq_true_eq, decide_eq_false_iff_not, Bool.not_eq_true, Bool.not_eq_false, Bool.not_not, Bool.not_eq_eq_eq_not, Bool.not_true, Bool.not_false, Bool.false_eq_true, Bool.true_eq_false, ne_eq, Decidable.not_not, not_false_eq_true, not_true_eq_false] at c43
            refine skip ?_
            show Code.wp _ _ _ _ _
            refine seq ?_
            refine block ?_
            refine seq ?_
            refine region_draw mixed (by kernel_rfl) hS ?_
            obtain ⟨s, hxs, hds⟩ := drop_of (l := x.duty) (k := j) (by omega)
            obtain ⟨bs, os, css, has, hlens, hcss, hRs⟩ := held (j) (by omega)
            obtain rfl : s = x.duty[j] := (List.getElem?_eq_some_iff.1 hxs).2.symm
            generalize x.duty[j] = s at hxs hds hRs
            obtain ⟨rfl, hsi⟩ := hRs
            refine qv (fun w hS => (fa42_2 h5)) ?_
            refine qv (fun w hS => (yLdB rfl Try.isAgg40 (hS.at _) rfl)) ?_
            refine qv (fun w hS => (yMove h7)) ?_
            refine qv (fun w hS => (yIxa rfl has rfl Try.runUnderlying40 Try.sizeOf44 (by omega) (by omega))) ?_
            refine qv (fun w hS => (fa44_0 rfl)) ?_
            refine qv (fun w hS => (yLd rfl Try.isAgg3 ((hcss.ext hS.ext).at (j := 0) rfl))) ?_
            refine qcall Try.call46 (.cons rfl .nil) (fun w hS => c_rminute) ?_
            refine qv (fun w hS => (yNot rfl)) ?_
            refine qv (fun w hS => (yMove rfl)) ?_
            refine qg rfl rfl rfl (fun g w hS => (fa42_2 h5)) (fun v55 g55 => ?_)
            refine qg rfl rfl rfl (fun g w hS => (yLdB (g55.1 g) Try.isAgg40 (hS.at _) rfl)) (fun v56 g56 => ?_)
            refine qg rfl rfl rfl (fun g w hS => (yMove h7)) (fun v57 g57 => ?_)
            refine qg rfl rfl rfl (fun g w hS => (yIxa (g56.1 g) has (g57.1 g) Try.runUnderlying40 Try.sizeOf44 (by omega) (by omega))) (fun v58 g58 => ?_)
            refine qg rfl rfl rfl (fun g w hS => (fa44_1 (g58.1 g))) (fun v59 g59 => ?_)
            refine qg rfl rfl rfl (fun g w hS => (yLd (g59.1 g) Try.isAgg3 ((hcss.ext hS.ext).at (j := 1) rfl))) (fun v60 g60 => ?_)
            refine qg rfl rfl rfl (fun g w hS => (fa42_2 h5)) (fun v61 g61 => ?_)
            refine qg rfl rfl rfl (fun g w hS => (yLdB (g61.1 g) Try.isAgg40 (hS.at _) rfl)) (fun v62 g62 => ?_)
            refine qg rfl rfl rfl (fun g w hS => (yMove h7)) (fun v63 g63 => ?_)
            refine qg rfl rfl rfl (fun g w hS => (yIxa (g62.1 g) has (g63.1 g) Try.runUnderlying40 Try.sizeOf44 (by omega) (by omega))) (fun v64 g64 => ?_)
            refine qg rfl rfl rfl (fun g w hS => (fa44_0 (g64.1 g))) (fun v65 g65 => ?_)
            refine qg rfl rfl rfl (fun g w hS => (yLd (g65.1 g) Try.isAgg3 ((hcss.ext hS.ext).at (j := 0) rfl))) (fun v66 g66 => ?_)
            refine qgc rfl rfl rfl Try.call54 (fun g => (.cons (g60.1 g) (.cons (g66.1 g) (.cons rfl .nil)))) (fun g w hS => c_in) (fun v67 g67 => ?_)
            refine qg rfl rfl rfl (fun g w hS => (yNot (g67.1 g))) (fun v68 g68 => ?_)
            refine qv (fun w hS => (yOr rfl rfl (fun hB => (g68.1 hB)))) ?_
            clear hS; refine qnil (fun w hS => ?_)
            show Code.wp _ _ _ _ _
            refine cond rfl (fun c69 => ?_) (fun c69 => ?_)
            ·
              refine seq ?_
              refine region ?_
              refine sv (yAsg rfl) ?_
              refine nil ?_
              show Code.wp _ _ _ _ _
              refine wp_ret (blockR (thenR (thenR (blockR (thenR ?_)))))
              exact retV (res1 rfl (eqI (hne.trans (oprE_3 c34 c38 (List.mem_of_getElem? hxs) ((spnBad_in s).symm.trans c69))))) hS.ext
            ·
              refine skip ?_
              show Code.wp _ _ _ _ _
              refine region ?_
              refine sv (yMove h7) ?_
              refine sv (yAdd rfl rfl ⟨by omega, by omega⟩) ?_
              refine sv (yAsg rfl) ?_
              refine nil ?_
              exact ⟨_, _, rfl, ⟨j + 1, h5, rfl, hS, (by omega), (snoc hM (fun v hv => by cases Option.some.inj (hxs.symm.trans hv); exact (spnBad_in s).symm.trans c69)), rfl⟩, by omega⟩
          ·
            simp only [Bool.and_eq_true, Bool.or_eq_true, Bool.and_eq_false_iff, Bool.or_eq_false_iff, decide_eq_true_eq, decide_eq_false_iff_not, Bool.not_eq_true, Bool.not_eq_false, Bool.not_not, Bool.not_eq_eq_eq_not, Bool.not_true, Bool.not_false, Bool.false_eq_true, Bool.true_eq_false, ne_eq, Decidable.not_not, not_false_eq_true, not_true_eq_false] at c43
            refine exit ?_
            show Code.wp _ _ _ _ _
            refine seq ?_
            refine region ?_
            refine sv (yAsg rfl) ?_
            refine nil ?_
            show Code.wp _ _ _ _ _
            refine wp_ret ?_
            exact retV (res1 rfl (eqI (hne.trans (oprE_0 c34 c38 (fun q hq => hM q (by omega)))))) hS.ext
set_option maxHeartbeats 1000000 in
/-- barrage/barrageref10.key -/
theorem c_rkey {c : Crew} {cs : List Value} {i : Nat} {x : ByteArray} {w0 : World} (h : RCrew w0 cs c) (hx : c.keys[i]? = some x) : CV Try.prog 68 #[.agg cs.toArray, .int .i64 (i : Int)] w0 (.int .i64 (errR id (fun _ => 0) c.keys i x)) := by
  obtain ⟨ov, kv, nv, rfl, hso, hsk, hsn, hrm⟩ := id h
  obtain ⟨a, cap, rfl, hcap, hmx, hel⟩ := id hso
  obtain ⟨ak, ck, rfl, hckap, hkmx, helk⟩ := id hsk
  have hil := (List.getElem?_eq_some_iff.1 hx).1
  obtain ⟨y, hxq, hdq⟩ := drop_of (l := c.keys) (k := i) (by omega)
  obtain ⟨bq, oq, csq, haq, hlenq, hcsq, hRq⟩ := helk (i) (by omega)
  obtain rfl : y = c.keys[i] := (List.getElem?_eq_some_iff.1 hxq).2.symm
  generalize c.keys[i] = y at hxq hdq hRq
  obtain ⟨rfl, hnm⟩ := hRq
  obtain rfl : x = y := Option.some.inj (hx.symm.trans hxq)
  refine enter Try.func68 rfl Try.ntmps68 rfl ?_
  have hS := St.start w0
  refine seq ?_
  refine region ?_
  refine sbox hS rfl rfl ?_; clear hS; intro b2 w hS
  refine sv (yAsg rfl) ?_
  refine nil ?_
  show Code.wp _ _ _ _ _
  refine seq ?_
  refine seq ?_
  refine region ?_
  refine sv (fa26_1 rfl) ?_
  refine sv (yLdB rfl Try.isAgg23 (hS.at _) rfl) ?_
  refine sv (yMove rfl) ?_
  refine sv (yIxa rfl haq rfl Try.runUnderlying23 Try.sizeOf9 (by omega) (by omega)) ?_
  refine sv (yLd rfl Try.isAgg9 ((hcsq.ext hS.ext).one)) ?_
  refine scall Try.call53 (.cons rfl .nil) (c_rName hnm) ?_
  rintro _ w ⟨rfl, hE⟩; replace hS := hS.step hE; clear hE
  refine sv (yNot rfl) ?_
  refine nil ?_
  show Code.wp _ _ _ _ _
  refine cond rfl (fun c12 => ?_) (fun c12 => ?_)
  ·
    refine seq ?_
    refine region ?_
    refine sv (yAsg rfl) ?_
    refine nil ?_
    show Code.wp _ _ _ _ _
    refine wp_ret (thenR ?_)
    exact retV (res1 rfl (eqI (errR_form c12))) hS.ext
  ·
    refine skip ?_
    show Code.wp _ _ _ _ _
    refine seq ?_
    refine seq ?_
    refine region ?_
    refine sv (yAsg rfl) ?_
    refine nil ?_
    show Code.wp _ _ _ _ _
    refine block ?_
    refine loop (fun f w zz => ∃ (k : Nat), f 1 = .int .i64 (i : Int) ∧ f 2 = .pointer (some ⟨b2, 0, none⟩) ∧ f 5 = .int .i64 (k : Int) ∧ StX [] w0 w [blk b2 [.slice a c.ops.length cap, .slice ak c.keys.length ck, nv] 26] ∧ (k ≤ i) ∧ (∀ q, q < k → ∀ u, c.keys[q]? = some u → id u ≠ id x) ∧ zz = i - k) _ ⟨_, rfl, 0, rfl, rfl, rfl, hS, (Nat.zero_le _), (fun q hq => absurd hq (Nat.not_lt_zero q)), rfl⟩ ?_
    clear hS
    rintro f w _ ⟨k, h1, h2, h5, hS, hk, hN, rfl⟩
    refine seq ?_
    refine seq ?_
    refine region ?_
    refine sv (yMove h5) ?_
    refine sv (yMove h1) ?_
    refine sv (yLss rfl rfl) ?_
    refine nil ?_
    show Code.wp _ _ _ _ _
    refine cond rfl (fun c15 => ?_) (fun c15 => ?_)
    ·
      simp only [Bool.and_eq_true, Bool.or_eq_true, Bool.and_eq_false_iff, Bool.or_eq_false_iff, decide_eq_true_eq, decide_eq_false_iff_not, Bool.not_eq_true, Bool.not_eq_false, Bool.not_not, Bool.not_eq_eq_eq_not, Bool.not_true, Bool.not_false, Bool.false_eq_true, Bool.true_eq_false, ne_eq, Decidable.not_not, not_false_eq_true, not_true_eq_false] at c15
      refine skip ?_
      show Code.wp _ _ _ _ _
      refine seq ?_
      refine block ?_
      refine seq ?_
      refine region_draw mixed (by kernel_rfl) hS ?_
      obtain ⟨u, hxu, hdu⟩ := drop_of (l := c.keys) (k := k) (by omega)
      obtain ⟨bu, ou, csu, hau, hlenu, hcsu, hRu⟩ := helk (k) (by omega)
      obtain rfl : u = c.keys[k] := (List.getElem?_eq_some_iff.1 hxu).2.symm
      generalize c.keys[k] = u at hxu hdu hRu
      obtain ⟨rfl, hun⟩ := hRu
      refine qv (fun w hS => (fa26_1 h2)) ?_
      refine qv (fun w hS => (yLdB rfl Try.isAgg23 (hS.at _) rfl)) ?_
      refine qv (fun w hS => (yMove h5)) ?_
      refine qv (fun w hS => (yIxa rfl hau rfl Try.runUnderlying23 Try.sizeOf9 (by omega) (by omega))) ?_
      refine qv (fun w hS => (yLd rfl Try.isAgg9 ((hcsu.ext hS.ext).one))) ?_
      refine qv (fun w hS => (fa26_1 h2)) ?_
      refine qv (fun w hS => (yLdB rfl Try.isAgg23 (hS.at _) rfl)) ?_
      refine qv (fun w hS => (yMove h1)) ?_
      refine qv (fun w hS => (yIxa rfl haq rfl Try.runUnderlying23 Try.sizeOf9 (by omega) (by omega))) ?_
      refine qv (fun w hS => (yLd rfl Try.isAgg9 ((hcsq.ext hS.ext).one))) ?_
      refine qv (fun w hS => (ySEq rfl rfl)) ?_
      clear hS; refine qnil (fun w hS => ?_)
      show Code.wp _ _ _ _ _
      refine cond rfl (fun c28 => ?_) (fun c28 => ?_)
      ·
        simp only [Bool.and_eq_true, Bool.or_eq_true, Bool.and_eq_false_iff, Bool.or_eq_false_iff, decide_eq_true_eq, decide_eq_false_iff_not, Bool.not_eq_true, Bool.not_eq_false, Bool.not_not, Bool.not_eq_eq_eq_not, Bool.not_true, Bool.not_false, Bool.false_eq_true, Bool.true_eq_false, ne_eq, Decidable.not_not, not_false_eq_true, not_true_eq_false] at c28
        refine seq ?_
        refine region ?_
        refine sv (yAsg rfl) ?_
        refine nil ?_
        show Code.wp _ _ _ _ _
        refine wp_ret (blockR (thenR (thenR (blockR (thenR ?_)))))
        exact retV (res1 rfl (eqI (errR_twice c12 hxu (by omega) c28))) hS.ext
      ·
        simp only [Bool.and_eq_true, Bool.or_eq_true, Bool.and_eq_false_iff, Bool.or_eq_false_iff, decide_eq_true_eq, decide_eq_false_iff_not, Bool.not_eq_true, Bool.not_eq_false, Bool.not_not, Bool.not_eq_eq_eq_not, Bool.not_true, Bool.not_false, Bool.false_eq_true, Bool.true_eq_false, ne_eq, Decidable.not_not, not_false_eq_true, not_true_eq_false] at c28
        refine skip ?_
        show Code.wp _ _ _ _ _
        refine region ?_
        refine sv (yMove h5) ?_
        refine sv (yAdd rfl rfl ⟨by omega, by omega⟩) ?_
        refine sv (yAsg rfl) ?_
        refine nil ?_
        exact ⟨_, _, rfl, ⟨k + 1, h1, h2, rfl, hS, (by omega), (snoc hN (fun v hv => by cases Option.some.inj (hxu.symm.trans hv); exact c28)), rfl⟩, by omega⟩
    ·
      simp only [Bool.and_eq_true, Bool.or_eq_true, Bool.and_eq_false_iff, Bool.or_eq_false_iff, decide_eq_true_eq, decide_eq_false_iff_not, Bool.not_eq_true, Bool.not_eq_false, Bool.not_not, Bool.not_eq_eq_eq_not, Bool.not_true, Bool.not_false, Bool.false_eq_true, Bool.true_eq_false, ne_eq, Decidable.not_not, not_false_eq_true, not_true_eq_false] at c15
      refine exit ?_
      show Code.wp _ _ _ _ _
      refine seq ?_
      refine region ?_
      refine sv (yAsg rfl) ?_
      refine nil ?_
      show Code.wp _ _ _ _ _
      refine wp_ret ?_
      exact retV (res1 rfl (eqI (errR_rest c12 (fun q hq => hN q (by omega))))) hS.ext
set_option maxHeartbeats 2000000 in
/-- barrage/barrageref10.kind -/
theorem c_rkind {c : Crew} {cs : List Value} {i : Nat} {x : Knd} {w0 : World} (h : RCrew w0 cs c) (hx : c.kinds[i]? = some x) : CV Try.prog 69 #[.agg cs.toArray, .int .i64 (i : Int)] w0 (.int .i64 (errR (·.name) (kndE c.keys.length) c.kinds i x)) := by
  obtain ⟨ov, kv, nv, rfl, hso, hsk, hsn, hrm⟩ := id h
  obtain ⟨a, cap, rfl, hcap, hmx, hel⟩ := id hso
  obtain ⟨ak, ck, rfl, hckap, hkmx, helk⟩ := id hsk
  obtain ⟨an, cn, rfl, hncap, hnmx, heln⟩ := id hsn
  have hil := (List.getElem?_eq_some_iff.1 hx).1
  obtain ⟨y, hxq, hdq⟩ := drop_of (l := c.kinds) (k := i) (by omega)
  obtain ⟨bq, oq, csq, haq, hlenq, hcsq, hRq⟩ := heln (i) (by omega)
  obtain rfl : y = c.kinds[i] := (List.getElem?_eq_some_iff.1 hxq).2.symm
  generalize c.kinds[i] = y at hxq hdq hRq
  obtain ⟨xv, rfl, hnm, -, -, -, hsx, -⟩ := hRq
  obtain rfl : x = y := Option.some.inj (hx.symm.trans hxq)
  obtain ⟨axk, cxk, rfl, hxcap, hxmx, helx⟩ := id hsx
  refine enter Try.func69 rfl Try.ntmps69 rfl ?_
  have hS := St.start w0
  refine seq ?_
  refine region ?_
  refine sbox hS rfl rfl ?_; clear hS; intro b2 w hS
  refine sv (yAsg rfl) ?_
  refine nil ?_
  show Code.wp _ _ _ _ _
  refine seq ?_
  refine region ?_
  refine sv (fa26_2 rfl) ?_
  refine sv (yLdB rfl Try.isAgg24 (hS.at _) rfl) ?_
  refine sv (yMove rfl) ?_
  refine sv (yIxa rfl haq rfl Try.runUnderlying24 Try.sizeOf79 (by omega) (by omega)) ?_
  refine sv (yLdA rfl Try.isAgg79 Try.sizeOf79 (hcsq.ext hS.ext) rfl) ?_
  refine salloc hS Try.zeroValue79 rfl ?_; clear hS; intro b5 w hS
  refine sst hS rfl rfl Try.sizeOf79 rfl rfl rfl rfl ?_; clear hS; intro w hS
  refine nil ?_
  show Code.wp _ _ _ _ _
  refine seq ?_
  refine seq ?_
  refine region ?_
  replace hS : StX [] w0 w (blk b5 [.string x.name, .int .i64 x.grade, .int .i64 x.second, .int .i64 x.within, .slice axk x.keys.length cxk, .bool x.split] 79 :: blk b2 [.slice a c.ops.length cap, .slice ak c.keys.length ck, .slice an c.kinds.length cn] 26 :: []) := hS
  refine sv (fa79_0 rfl) ?_
  refine sv (yLdB rfl Try.isAgg9 (hS.at _) rfl) ?_
  refine scall Try.call53 (.cons rfl .nil) (c_rName hnm) ?_
  rintro _ w ⟨rfl, hE⟩; replace hS := hS.step hE; clear hE
  refine sv (yNot rfl) ?_
  refine nil ?_
  show Code.wp _ _ _ _ _
  refine cond rfl (fun c17 => ?_) (fun c17 => ?_)
  ·
    refine seq ?_
    refine region ?_
    refine sv (yAsg rfl) ?_
    refine nil ?_
    show Code.wp _ _ _ _ _
    refine wp_ret (thenR ?_)
    exact retV (res1 rfl (eqI (errR_form c17))) hS.ext
  ·
    refine skip ?_
    show Code.wp _ _ _ _ _
    refine seq ?_
    refine seq ?_
    refine region ?_
    refine sv (yAsg rfl) ?_
    refine nil ?_
    show Code.wp _ _ _ _ _
    refine block ?_
    refine loop (fun f w zz => ∃ (k : Nat), f 1 = .int .i64 (i : Int) ∧ f 2 = .pointer (some ⟨b2, 0, none⟩) ∧ f 5 = .pointer (some ⟨b5, 0, none⟩) ∧ f 6 = .int .i64 (k : Int) ∧ StX [] w0 w [blk b5 [.string x.name, .int .i64 x.grade, .int .i64 x.second, .int .i64 x.within, .slice axk x.keys.length cxk, .bool x.split] 79, blk b2 [.slice a c.ops.length cap, .slice ak c.keys.length ck, .slice an c.kinds.length cn] 26] ∧ (k ≤ i) ∧ (∀ q, q < k → ∀ u : Knd, c.kinds[q]? = some u → u.name ≠ x.name) ∧ zz = i - k) _ ⟨_, rfl, 0, rfl, rfl, rfl, rfl, hS, (Nat.zero_le _), (fun q hq => absurd hq (Nat.not_lt_zero q)), rfl⟩ ?_
    clear hS
    rintro f w _ ⟨k, h1, h2, h5, h6, hS, hk, hN, rfl⟩
    refine seq ?_
    refine seq ?_
    refine region ?_
    refine sv (yMove h6) ?_
    refine sv (yMove h1) ?_
    refine sv (yLss rfl rfl) ?_
    refine nil ?_
    show Code.wp _ _ _ _ _
    refine cond rfl (fun c20 => ?_) (fun c20 => ?_)
    ·
      simp only [Bool.and_eq_true, Bool.or_eq_true, Bool.and_eq_false_iff, Bool.or_eq_false_iff, decide_eq_true_eq, decide_eq_false_iff_not, Bool.not_eq_true, Bool.not_eq_false, Bool.not_not, Bool.not_eq_eq_eq_not, Bool.not_true, Bool.not_false, Bool.false_eq_true, Bool.true_eq_false, ne_eq, Decidable.not_not, not_false_eq_true, not_true_eq_false] at c20
      refine skip ?_
      show Code.wp _ _ _ _ _
      refine seq ?_
      refine block ?_
      refine seq ?_
      refine region_draw mixed (by kernel_rfl) hS ?_
      obtain ⟨u, hxu, hdu⟩ := drop_of (l := c.kinds) (k := k) (by omega)
      obtain ⟨bu, ou, csu, hau, hlenu, hcsu, hRu⟩ := heln (k) (by omega)
      obtain rfl : u = c.kinds[k] := (List.getElem?_eq_some_iff.1 hxu).2.symm
      generalize c.kinds[k] = u at hxu hdu hRu
      obtain ⟨uv, rfl, -⟩ := hRu
      refine qv (fun w hS => (fa26_2 h2)) ?_
      refine qv (fun w hS => (yLdB rfl Try.isAgg24 (hS.at _) rfl)) ?_
      refine qv (fun w hS => (yMove h6)) ?_
      refine qv (fun w hS => (yIxa rfl hau rfl Try.runUnderlying24 Try.sizeOf79 (by omega) (by omega))) ?_
      refine qv (fun w hS => (fa79_0 rfl)) ?_
      refine qv (fun w hS => (yLd rfl Try.isAgg9 ((hcsu.ext hS.ext).at (j := 0) rfl))) ?_
      refine qv (fun w hS => (fa79_0 h5)) ?_
      refine qv (fun w hS => (yLdB rfl Try.isAgg9 (hS.at _) rfl)) ?_
      refine qv (fun w hS => (ySEq rfl rfl)) ?_
      clear hS; refine qnil (fun w hS => ?_)
      show Code.wp _ _ _ _ _
      refine cond rfl (fun c31 => ?_) (fun c31 => ?_)
      ·
        simp only [Bool.and_eq_true, Bool.or_eq_true, Bool.and_eq_false_iff, Bool.or_eq_false_iff, decide_eq_true_eq, decide_eq_false_iff_not, Bool.not_eq_true, Bool.not_eq_false, Bool.not_not, Bool.not_eq_eq_eq_not, Bool.not_true, Bool.not_false, Bool.false_eq_true, Bool.true_eq_false, ne_eq, Decidable.not_not, not_false_eq_true, not_true_eq_false] at c31
        refine seq ?_
        refine region ?_
        refine sv (yAsg rfl) ?_
        refine nil ?_
        show Code.wp _ _ _ _ _
        refine wp_ret (blockR (thenR (thenR (blockR (thenR ?_)))))
        exact retV (res1 rfl (eqI (errR_twice c17 hxu (by omega) c31))) hS.ext
      ·
        simp only [Bool.and_eq_true, Bool.or_eq_true, Bool.and_eq_false_iff, Bool.or_eq_false_iff, decide_eq_true_eq, decide_eq_false_iff_not, Bool.not_eq_true, Bool.not_eq_false, Bool.not_not, Bool.not_eq_eq_eq_not, Bool.not_true, Bool.not_false, Bool.false_eq_true, Bool.true_eq_false, ne_eq, Decidable.not_not, not_false_eq_true, not_true_eq_false] at c31
        refine skip ?_
        show Code.wp _ _ _ _ _
        refine region ?_
        refine sv (yMove h6) ?_
        refine sv (yAdd rfl rfl ⟨by omega, by omega⟩) ?_
        refine sv (yAsg rfl) ?_
        refine nil ?_
        exact ⟨_, _, rfl, ⟨k + 1, h1, h2, h5, rfl, hS, (by omega), (snoc hN (fun v hv => by cases Option.some.inj (hxu.symm.trans hv); exact c31)), rfl⟩, by omega⟩
    ·
      simp only [Bool.and_eq_true, Bool.or_eq_true, Bool.and_eq_false_iff, Bool.or_eq_false_iff, decide_eq_true_eq, decide_eq_false_iff_not, Bool.not_eq_true, Bool.not_eq_false, Bool.not_not, Bool.not_eq_eq_eq_not, Bool.not_true, Bool.not_false, Bool.false_eq_true, Bool.true_eq_false, ne_eq, Decidable.not_not, not_false_eq_true, not_true_eq_false] at c20
      have hne : errR (·.name) (kndE c.keys.length) c.kinds i x = kndE c.keys.length x := errR_rest c17 (fun q hq => hN q (by omega))
      refine exit ?_
      show Code.wp _ _ _ _ _
      refine seq ?_
      refine seq ?_
      refine region ?_
      refine sv (fa79_1 h5) ?_
      refine sv (yLdB rfl Try.isAgg3 (hS.at _) rfl) ?_
      refine scall Try.call54 (.cons rfl (.cons rfl (.cons rfl .nil))) c_in ?_
      rintro _ w ⟨rfl, hE⟩; replace hS := hS.step hE; clear hE
      refine sv (yNot rfl) ?_
      refine sv (yMove rfl) ?_
      refine sg rfl rfl rfl (fun g => (fa79_2 h5)) (fun v37 g37 => ?_)
      refine sg rfl rfl rfl (fun g => (yLdB (g37.1 g) Try.isAgg3 (hS.at _) rfl)) (fun v38 g38 => ?_)
      refine sgc hS rfl rfl rfl Try.call54 (fun g => (.cons (g38.1 g) (.cons rfl (.cons rfl .nil)))) (fun g => c_in) ?_; clear hS; intro v39 w hS g39
      refine sg rfl rfl rfl (fun g => (yNot (g39.1 g))) (fun v40 g40 => ?_)
      refine sv (yOr rfl rfl (fun hB => (g40.1 hB))) ?_
      refine sv (yMove rfl) ?_
      refine sg rfl rfl rfl (fun g => (fa79_3 h5)) (fun v43 g43 => ?_)
      refine sg rfl rfl rfl (fun g => (yLdB (g43.1 g) Try.isAgg3 (hS.at _) rfl)) (fun v44 g44 => ?_)
      refine sgc hS rfl rfl rfl Try.call54 (fun g => (.cons (g44.1 g) (.cons rfl (.cons rfl .nil)))) (fun g => c_in) ?_; clear hS; intro v45 w hS g45
      refine sg rfl rfl rfl (fun g => (yNot (g45.1 g))) (fun v46 g46 => ?_)
      refine sv (yOr rfl rfl (fun hB => (g46.1 hB))) ?_
      refine sv (yMove rfl) ?_
      refine sg rfl rfl rfl (fun g => (fa79_2 h5)) (fun v49 g49 => ?_)
      refine sg rfl rfl rfl (fun g => (yLdB (g49.1 g) Try.isAgg3 (hS.at _) rfl)) (fun v50 g50 => ?_)
      refine sg rfl rfl rfl (fun g => (yEql (g50.1 g) rfl)) (fun v51 g51 => ?_)
      refine sg rfl rfl rfl (fun g => (yMove (g51.1 g))) (fun v52 g52 => ?_)
      refine sgg rfl rfl g52 (fun g => (fa79_3 h5)) (fun v53 g53 => ?_)
      refine sgg rfl rfl g52 (fun g => (yLdB (g53.1 g) Try.isAgg3 (hS.at _) rfl)) (fun v54 g54 => ?_)
      refine sgg rfl rfl g52 (fun g => (yNeq (g54.1 g) rfl)) (fun v55 g55 => ?_)
      refine sg rfl rfl rfl (fun g => (yAnd (g52.1 g) (fun hB => (g55.1 ⟨g, hB⟩)) rfl)) (fun v56 g56 => ?_)
      refine sv (yOr rfl rfl (fun hB => (g56.1 hB))) ?_
      refine nil ?_
      show Code.wp _ _ _ _ _
      refine cond rfl (fun c57 => ?_) (fun c57 => ?_)
      ·
        have hkr : kndR x = true := (kndR_in x).symm.trans c57
        refine seq ?_
        refine region ?_
        refine sv (yAsg rfl) ?_
        refine nil ?_
        show Code.wp _ _ _ _ _
        refine wp_ret (thenR ?_)
        exact retV (res1 rfl (eqI (hne.trans (kndE_1 hkr)))) hS.ext
      ·
        have hkr : kndR x = false := (kndR_in x).symm.trans c57
        refine skip ?_
        show Code.wp _ _ _ _ _
        refine seq ?_
        refine seq ?_
        refine region ?_
        refine sv (yAsg rfl) ?_
        refine nil ?_
        show Code.wp _ _ _ _ _
        refine block ?_
        refine loop (fun f w zz => ∃ (j : Nat), f 2 = .pointer (some ⟨b2, 0, none⟩) ∧ f 5 = .pointer (some ⟨b5, 0, none⟩) ∧ f 7 = .int .i64 (j : Int) ∧ StX [] w0 w [blk b5 [.string x.name, .int .i64 x.grade, .int .i64 x.second, .int .i64 x.within, .slice axk x.keys.length cxk, .bool x.split] 79, blk b2 [.slice a c.ops.length cap, .slice ak c.keys.length ck, .slice an c.kinds.length cn] 26] ∧ (j ≤ x.keys.length) ∧ (∀ q, q < j → ∀ y, x.keys[q]? = some y → outB y 0 ((c.keys.length : Int) - 1) = false) ∧ zz = x.keys.length - j) _ ⟨_, rfl, 0, h2, h5, rfl, hS, (Nat.zero_le _), (fun q hq => absurd hq (Nat.not_lt_zero q)), rfl⟩ ?_
        clear hS
        rintro f w _ ⟨j, h2, h5, h7, hS, hj, hM, rfl⟩
        refine seq ?_
        refine seq ?_
        refine region ?_
        refine sv (yMove h7) ?_
        refine sv (fa79_4 h5) ?_
        refine sv (yLdB rfl Try.isAgg30 (hS.at _) rfl) ?_
        refine sv (yLen rfl Try.underlying30) ?_
        refine sv (yLss rfl rfl) ?_
        refine nil ?_
        show Code.wp _ _ _ _ _
        refine cond rfl (fun c62 => ?_) (fun c62 => ?_)
        ·
          simp only [Bool.and_eq_true, Bool.or_eq_true, Bool.and_eq_false_iff, Bool.or_eq_false_iff, decide_eq_true_eq, decide_eq_false_iff_not, Bool.not_eq_true, Bool.not_eq_false, Bool.not_not, Bool.not_eq_eq_eq_not, Bool.not_true, Bool.not_false, Bool.false_eq_true, Bool.true_eq_false, ne_eq, Decidable.not_not, not_false_eq_true, not_true_eq_false] at c62
          refine skip ?_
          show Code.wp _ _ _ _ _
          refine seq ?_
          refine block ?_
          refine seq ?_
          refine region_draw mixed (by kernel_rfl) hS ?_
          obtain ⟨s, hxs, hds⟩ := drop_of (l := x.keys) (k := j) (by omega)
          obtain ⟨bs, os, css, has, hlens, hcss, hRs⟩ := helx (j) (by omega)
          obtain rfl : s = x.keys[j] := (List.getElem?_eq_some_iff.1 hxs).2.symm
          generalize x.keys[j] = s at hxs hds hRs
          obtain ⟨rfl, hsi⟩ := hRs
          refine qv (fun w hS => (fa79_4 h5)) ?_
          refine qv (fun w hS => (yLdB rfl Try.isAgg30 (hS.at _) rfl)) ?_
          refine qv (fun w hS => (yMove h7)) ?_
          refine qv (fun w hS => (yIxa rfl has rfl Try.runUnderlying30 Try.sizeOf3 (by omega) (by omega))) ?_
          refine qv (fun w hS => (yLd rfl Try.isAgg3 ((hcss.ext hS.ext).one))) ?_
          refine qv (fun w hS => (fa26_1 h2)) ?_
          refine qv (fun w hS => (yLdB rfl Try.isAgg23 (hS.at _) rfl)) ?_
          refine qv (fun w hS => (yLen rfl Try.underlying23)) ?_
          refine qv (fun w hS => (ySub rfl rfl ⟨by omega, by omega⟩)) ?_
          refine qcall Try.call54 (.cons rfl (.cons rfl (.cons rfl .nil))) (fun w hS => c_in) ?_
          refine qv (fun w hS => (yNot rfl)) ?_
          clear hS; refine qnil (fun w hS => ?_)
          show Code.wp _ _ _ _ _
          refine cond rfl (fun c75 => ?_) (fun c75 => ?_)
          ·
            refine seq ?_
            refine region ?_
            refine sv (yAsg rfl) ?_
            refine nil ?_
            show Code.wp _ _ _ _ _
            refine wp_ret (blockR (thenR (thenR (blockR (thenR ?_)))))
            exact retV (res1 rfl (eqI (hne.trans (kndE_2 hkr (List.mem_of_getElem? hxs) (by rw [← inB_not]; exact c75))))) hS.ext
          ·
            refine skip ?_
            show Code.wp _ _ _ _ _
            refine region ?_
            refine sv (yMove h7) ?_
            refine sv (yAdd rfl rfl ⟨by omega, by omega⟩) ?_
            refine sv (yAsg rfl) ?_
            refine nil ?_
            exact ⟨_, _, rfl, ⟨j + 1, h2, h5, rfl, hS, (by omega), (snoc hM (fun v hv => by cases Option.some.inj (hxs.symm.trans hv); rw [← inB_not]; exact c75)), rfl⟩, by omega⟩
        ·
          simp only [Bool.and_eq_true, Bool.or_eq_true, Bool.and_eq_false_iff, Bool.or_eq_false_iff, decide_eq_true_eq, decide_eq_false_iff_not, Bool.not_eq_true, Bool.not_eq_false, Bool.not_not, Bool.not_eq_eq_eq_not, Bool.not_true, Bool.not_false, Bool.false_eq_true, Bool.true_eq_false, ne_eq, Decidable.not_not, not_false_eq_true, not_true_eq_false] at c62
          have hany := key_any (nk := c.keys.length) (k := x) (fun q hq => hM q (by omega))
          refine exit ?_
          show Code.wp _ _ _ _ _
          refine seq ?_
          refine seq ?_
          refine region ?_
          refine sv (yAsg rfl) ?_
          refine nil ?_
          show Code.wp _ _ _ _ _
          refine block ?_
          refine loop (fun f w zz => ∃ (j : Nat), f 5 = .pointer (some ⟨b5, 0, none⟩) ∧ f 8 = .int .i64 (j : Int) ∧ StX [] w0 w [blk b5 [.string x.name, .int .i64 x.grade, .int .i64 x.second, .int .i64 x.within, .slice axk x.keys.length cxk, .bool x.split] 79, blk b2 [.slice a c.ops.length cap, .slice ak c.keys.length ck, .slice an c.kinds.length cn] 26] ∧ (j ≤ x.keys.length) ∧ (∀ q, q < j → ∀ y, x.keys[q]? = some y → y ∉ x.keys.take q) ∧ zz = x.keys.length - j) _ ⟨_, rfl, 0, h5, rfl, hS, (Nat.zero_le _), (fun q hq => absurd hq (Nat.not_lt_zero q)), rfl⟩ ?_
          clear hS
          rintro f w _ ⟨j, h5, h8, hS, hj, hD, rfl⟩
          refine seq ?_
          refine seq ?_
          refine region ?_
          refine sv (yMove h8) ?_
          refine sv (fa79_4 h5) ?_
          refine sv (yLdB rfl Try.isAgg30 (hS.at _) rfl) ?_
          refine sv (yLen rfl Try.underlying30) ?_
          refine sv (yLss rfl rfl) ?_
          refine nil ?_
          show Code.wp _ _ _ _ _
          refine cond rfl (fun c80 => ?_) (fun c80 => ?_)
          ·
            simp only [Bool.and_eq_true, Bool.or_eq_true, Bool.and_eq_false_iff, Bool.or_eq_false_iff, decide_eq_true_eq, decide_eq_false_iff_not, Bool.not_eq_true, Bool.not_eq_false, Bool.not_not, Bool.not_eq_eq_eq_not, Bool.not_true, Bool.not_false, Bool.false_eq_true, Bool.true_eq_false, ne_eq, Decidable.not_not, not_false_eq_true, not_true_eq_false] at c80
            refine skip ?_
            show Code.wp _ _ _ _ _
            refine seq ?_
            refine block ?_
            refine seq ?_
            refine region_draw mixed (by kernel_rfl) hS ?_
            obtain ⟨s, hxs, hds⟩ := drop_of (l := x.keys) (k := j) (by omega)
            obtain ⟨bs, os, css, has, hlens, hcss, hRs⟩ := helx (j) (by omega)
            obtain rfl : s = x.keys[j] := (List.getElem?_eq_some_iff.1 hxs).2.symm
            generalize x.keys[j] = s at hxs hds hRs
            obtain ⟨rfl, hsi⟩ := hRs
            refine qv (fun w hS => (fa79_4 h5)) ?_
            refine qv (fun w hS => (yLdB rfl Try.isAgg30 (hS.at _) rfl)) ?_
            refine qv (fun w hS => (yMove h8)) ?_
            refine qv (fun w hS => (yTo rfl rfl Try.underlying30 Try.sizeOf3 (by omega))) ?_
            refine qv (fun w hS => (fa79_4 h5)) ?_
            refine qv (fun w hS => (yLdB rfl Try.isAgg30 (hS.at _) rfl)) ?_
            refine qv (fun w hS => (yMove h8)) ?_
            refine qv (fun w hS => (yIxa rfl has rfl Try.runUnderlying30 Try.sizeOf3 (by omega) (by omega))) ?_
            refine qv (fun w hS => (yLd rfl Try.isAgg3 ((hcss.ext hS.ext).one))) ?_
            refine qcall Try.call92 (.cons rfl (.cons rfl .nil)) (fun w hS => (c_has ((hsx.ext RInt.stays hS.ext).take (i := j) (by omega)))) ?_
            clear hS; refine qnil (fun w hS => ?_)
            show Code.wp _ _ _ _ _
            refine cond rfl (fun c92 => ?_) (fun c92 => ?_)
            ·
              refine seq ?_
              refine region ?_
              refine sv (yAsg rfl) ?_
              refine nil ?_
              show Code.wp _ _ _ _ _
              refine wp_ret (blockR (thenR (thenR (blockR (thenR ?_)))))
              exact retV (res1 rfl (eqI (hne.trans (kndE_3 hkr hany (nodup_not hxs (any_mem.1 c92)))))) hS.ext
            ·
              refine skip ?_
              show Code.wp _ _ _ _ _
              refine region ?_
              refine sv (yMove h8) ?_
              refine sv (yAdd rfl rfl ⟨by omega, by omega⟩) ?_
              refine sv (yAsg rfl) ?_
              refine nil ?_
              exact ⟨_, _, rfl, ⟨j + 1, h5, rfl, hS, (by omega), (snoc hD (fun v hv => by cases Option.some.inj (hxs.symm.trans hv); intro hm; rw [any_mem.2 hm] at c92; cases c92)), rfl⟩, by omega⟩
          ·
            simp only [Bool.and_eq_true, Bool.or_eq_true, Bool.and_eq_false_iff, Bool.or_eq_false_iff, decide_eq_true_eq, decide_eq_false_iff_not, Bool.not_eq_true, Bool.not_eq_false, Bool.not_not, Bool.not_eq_eq_eq_not, Bool.not_true, Bool.not_false, Bool.false_eq_true, Bool.true_eq_false, ne_eq, Decidable.not_not, not_false_eq_true, not_true_eq_false] at c80
            have hnd : x.keys.Nodup := nodup_yes (fun q hq => hD q (by omega))
            refine exit ?_
            show Code.wp _ _ _ _ _
            refine seq ?_
            refine seq ?_
            refine region ?_
            refine sv (fa79_5 h5) ?_
            refine sv (yLdB rfl Try.isAgg4 (hS.at _) rfl) ?_
            refine sv (yMove rfl) ?_
            refine sg rfl rfl rfl (fun g => (fa79_2 h5)) (fun v96 g96 => ?_)
            refine sg rfl rfl rfl (fun g => (yLdB (g96.1 g) Try.isAgg3 (hS.at _) rfl)) (fun v97 g97 => ?_)
            refine sg rfl rfl rfl (fun g => (yEql (g97.1 g) rfl)) (fun v98 g98 => ?_)
            refine sg rfl rfl rfl (fun g => (yMove (g98.1 g))) (fun v99 g99 => ?_)
            refine sgg rfl rfl g99 (fun g => (fa79_4 h5)) (fun v100 g100 => ?_)
            refine sgg rfl rfl g99 (fun g => (yLdB (g100.1 g) Try.isAgg30 (hS.at _) rfl)) (fun v101 g101 => ?_)
            refine sgg rfl rfl g99 (fun g => (yLen (g101.1 g) Try.underlying30)) (fun v102 g102 => ?_)
            refine sgg rfl rfl g99 (fun g => (yLss (g102.1 g) rfl)) (fun v103 g103 => ?_)
            refine sg rfl rfl rfl (fun g => (yOr (g99.1 g) rfl (fun hB => (g103.1 ⟨g, hB⟩)))) (fun v104 g104 => ?_)
            refine sv (yAnd rfl (fun hB => (g104.1 hB)) rfl) ?_
            refine nil ?_
            show Code.wp _ _ _ _ _
            refine cond rfl (fun c105 => ?_) (fun c105 => ?_)
            ·
              have hks : kndS x = true := c105
              refine seq ?_
              refine region ?_
              refine sv (yAsg rfl) ?_
              refine nil ?_
              show Code.wp _ _ _ _ _
              refine wp_ret (thenR ?_)
              exact retV (res1 rfl (eqI (hne.trans (kndE_4 hkr hany hnd hks)))) hS.ext
            ·
              have hks : kndS x = false := c105
              refine skip ?_
              show Code.wp _ _ _ _ _
              refine seq ?_
              refine region ?_
              refine sv (yAsg rfl) ?_
              refine nil ?_
              show Code.wp _ _ _ _ _
              refine wp_ret ?_
              exact retV (res1 rfl (eqI (hne.trans (kndE_0 hkr hany hnd hks)))) hS.ext
set_option maxHeartbeats 2000000 in
/-- barrage/barrageref10.Check -/
theorem c_rCheck {c : Crew} {cs : List Value} {w0 : World} (h : RCrew w0 cs c) : CV Try.prog 32 #[.agg cs.toArray] w0 (.tuple #[.int .i64 (checkC c).1, .int .i64 (checkC c).2.1, .int .i64 (checkC c).2.2]) := by
  obtain ⟨ov, kv, nv, rfl, hso, hsk, hsn, hrm⟩ := id h
  obtain ⟨a, cap, rfl, hcap, hmx, hel⟩ := id hso
  obtain ⟨ak, ck, rfl, hckap, hkmx, helk⟩ := id hsk
  obtain ⟨an, cn, rfl, hncap, hnmx, heln⟩ := id hsn
  refine enter Try.func32 rfl Try.ntmps32 rfl ?_
  have hS := St.start w0
  refine seq ?_
  refine region ?_
  refine sbox hS rfl rfl ?_; clear hS; intro b1 w hS
  refine sv (yAsg rfl) ?_
  refine sv (yAsg rfl) ?_
  refine sv (yAsg rfl) ?_
  refine nil ?_
  show Code.wp _ _ _ _ _
  refine seq ?_
  refine seq ?_
  refine region ?_
  refine sv (fa26_0 rfl) ?_
  refine sv (yLdB rfl Try.isAgg22 (hS.at _) rfl) ?_
  refine sv (yLen rfl Try.underlying22) ?_
  refine scall Try.call54 (.cons rfl (.cons rfl (.cons rfl .nil))) c_in ?_
  rintro _ w ⟨rfl, hE⟩; replace hS := hS.step hE; clear hE
  refine sv (yNot rfl) ?_
  refine sv (yMove rfl) ?_
  refine sg rfl rfl rfl (fun g => (fa26_1 rfl)) (fun v17 g17 => ?_)
  refine sg rfl rfl rfl (fun g => (yLdB (g17.1 g) Try.isAgg23 (hS.at _) rfl)) (fun v18 g18 => ?_)
  refine sg rfl rfl rfl (fun g => (yLen (g18.1 g) Try.underlying23)) (fun v19 g19 => ?_)
  refine sg rfl rfl rfl (fun g => (yGtr (g19.1 g) rfl)) (fun v20 g20 => ?_)
  refine sv (yOr rfl rfl (fun hB => (g20.1 hB))) ?_
  refine sv (yMove rfl) ?_
  refine sg rfl rfl rfl (fun g => (fa26_2 rfl)) (fun v23 g23 => ?_)
  refine sg rfl rfl rfl (fun g => (yLdB (g23.1 g) Try.isAgg24 (hS.at _) rfl)) (fun v24 g24 => ?_)
  refine sg rfl rfl rfl (fun g => (yLen (g24.1 g) Try.underlying24)) (fun v25 g25 => ?_)
  refine sgc hS rfl rfl rfl Try.call54 (fun g => (.cons (g25.1 g) (.cons rfl (.cons rfl .nil)))) (fun g => c_in) ?_; clear hS; intro v26 w hS g26
  refine sg rfl rfl rfl (fun g => (yNot (g26.1 g))) (fun v27 g27 => ?_)
  refine sv (yOr rfl rfl (fun hB => (g27.1 hB))) ?_
  refine nil ?_
  show Code.wp _ _ _ _ _
  refine cond rfl (fun c28 => ?_) (fun c28 => ?_)
  ·
    have hfin := checkC_1 ((sizeBad_in c).symm.trans c28)
    refine seq ?_
    refine region ?_
    refine sv (yAsg rfl) ?_
    refine sv (yAsg rfl) ?_
    refine sv (yAsg rfl) ?_
    refine nil ?_
    show Code.wp _ _ _ _ _
    refine wp_ret (thenR ?_)
    exact retV (res3 rfl (eqI (by rw [hfin])) (eqI (by rw [hfin])) (eqI (by rw [hfin]))) hS.ext
  ·
    have hsz : sizeBad c = false := (sizeBad_in c).symm.trans c28
    refine skip ?_
    show Code.wp _ _ _ _ _
    refine seq ?_
    refine seq ?_
    refine region ?_
    refine sv (yAsg rfl) ?_
    refine nil ?_
    show Code.wp _ _ _ _ _
    refine block ?_
    refine loop (fun f w zz => ∃ (k : Nat), f 1 = .pointer (some ⟨b1, 0, none⟩) ∧ f 5 = .int .i64 (k : Int) ∧ StX [] w0 w [blk b1 [.slice a c.ops.length cap, .slice ak c.keys.length ck, .slice an c.kinds.length cn] 26] ∧ (k ≤ c.ops.length) ∧ (namedR (·.name) oprE c.ops [] 0 = namedR (·.name) oprE (c.ops.drop k) ((c.ops.take k).map (·.name)) k) ∧ zz = c.ops.length - k) _ ⟨_, rfl, 0, rfl, rfl, hS, (Nat.zero_le _), (rfl), rfl⟩ ?_
    clear hS
    rintro f w _ ⟨k, h1, h5, hS, hk, hI, rfl⟩
    refine seq ?_
    refine seq ?_
    refine region ?_
    refine sv (yMove h5) ?_
    refine sv (fa26_0 h1) ?_
    refine sv (yLdB rfl Try.isAgg22 (hS.at _) rfl) ?_
    refine sv (yLen rfl Try.underlying22) ?_
    refine sv (yLss rfl rfl) ?_
    refine nil ?_
    show Code.wp _ _ _ _ _
    refine cond rfl (fun c33 => ?_) (fun c33 => ?_)
    ·
      simp only [Bool.and_eq_true, Bool.or_eq_true, Bool.and_eq_false_iff, Bool.or_eq_false_iff, decide_eq_true_eq, decide_eq_false_iff_not, Bool.not_eq_true, Bool.not_eq_false, Bool.not_not, Bool.not_eq_eq_eq_not, Bool.not_true, Bool.not_false, Bool.false_eq_true, Bool.true_eq_false, ne_eq, Decidable.not_not, not_false_eq_true, not_true_eq_false] at c33
      refine skip ?_
      show Code.wp _ _ _ _ _
      refine seq ?_
      refine block ?_
      refine seq ?_
      refine region ?_
      obtain ⟨x, hx, hd⟩ := drop_of (l := c.ops) (k := k) (by omega)
      refine sv (yLdBA h1 Try.isAgg26 Try.sizeOf26 (hS.at _) rfl rfl) ?_
      refine sv (yMove h5) ?_
      refine scall Try.call67 (.cons rfl (.cons rfl .nil)) (c_roper (h.ext hS.ext) hx) ?_
      rintro _ w ⟨rfl, hE⟩; replace hS := hS.step hE; clear hE
      refine sv (yAsg rfl) ?_
      refine nil ?_
      show Code.wp _ _ _ _ _
      refine seq ?_
      refine region ?_
      refine sv (yMove rfl) ?_
      refine sv (yNeq rfl rfl) ?_
      refine nil ?_
      show Code.wp _ _ _ _ _
      refine cond rfl (fun c40 => ?_) (fun c40 => ?_)
      ·
        simp only [Bool.and_eq_true, Bool.or_eq_true, Bool.and_eq_false_iff, Bool.or_eq_false_iff, decide_eq_true_eq, decide_eq_false_iff_not, Bool.not_eq_true, Bool.not_eq_false, Bool.not_not, Bool.not_eq_eq_eq_not, Bool.not_true, Bool.not_false, Bool.false_eq_true, Bool.true_eq_false, ne_eq, Decidable.not_not, not_false_eq_true, not_true_eq_false] at c40
        refine seq ?_
        refine region ?_
        refine sv (yMove h5) ?_
        refine sv (yMove rfl) ?_
        refine sv (yAsg rfl) ?_
        refine sv (yAsg rfl) ?_
        refine sv (yAsg rfl) ?_
        refine nil ?_
        show Code.wp _ _ _ _ _
        have hfin := checkC_2 hsz (hI.trans (namedR_hit hd c40)) c40
        refine wp_ret (blockR (thenR (thenR (blockR (thenR ?_)))))
        exact retV (res3 rfl (eqI (by rw [hfin])) (eqI (by rw [hfin])) (eqI (by rw [hfin]))) hS.ext
      ·
        simp only [Bool.and_eq_true, Bool.or_eq_true, Bool.and_eq_false_iff, Bool.or_eq_false_iff, decide_eq_true_eq, decide_eq_false_iff_not, Bool.not_eq_true, Bool.not_eq_false, Bool.not_not, Bool.not_eq_eq_eq_not, Bool.not_true, Bool.not_false, Bool.false_eq_true, Bool.true_eq_false, ne_eq, Decidable.not_not, not_false_eq_true, not_true_eq_false] at c40
        refine skip ?_
        show Code.wp _ _ _ _ _
        refine region ?_
        refine sv (yMove h5) ?_
        refine sv (yAdd rfl rfl ⟨by omega, by omega⟩) ?_
        refine sv (yAsg rfl) ?_
        refine nil ?_
        exact ⟨_, _, rfl, ⟨k + 1, h1, rfl, hS, (by omega), (by rw [hI]; exact namedR_step hx hd c40), rfl⟩, by omega⟩
    ·
      simp only [Bool.and_eq_true, Bool.or_eq_true, Bool.and_eq_false_iff, Bool.or_eq_false_iff, decide_eq_true_eq, decide_eq_false_iff_not, Bool.not_eq_true, Bool.not_eq_false, Bool.not_not, Bool.not_eq_eq_eq_not, Bool.not_true, Bool.not_false, Bool.false_eq_true, Bool.true_eq_false, ne_eq, Decidable.not_not, not_false_eq_true, not_true_eq_false] at c33
      have ho0 : (namedR (·.name) oprE c.ops [] 0).2 = 0 := by rw [hI, namedR_end (by omega)]
      refine exit ?_
      show Code.wp _ _ _ _ _
      refine seq ?_
      refine seq ?_
      refine region ?_
      refine sv (yAsg rfl) ?_
      refine nil ?_
      show Code.wp _ _ _ _ _
      refine block ?_
      refine loop (fun f w zz => ∃ (k : Nat), f 1 = .pointer (some ⟨b1, 0, none⟩) ∧ f 7 = .int .i64 (k : Int) ∧ StX [] w0 w [blk b1 [.slice a c.ops.length cap, .slice ak c.keys.length ck, .slice an c.kinds.length cn] 26] ∧ (k ≤ c.keys.length) ∧ (namedR id (fun _ => 0) c.keys [] 0 = namedR id (fun _ => 0) (c.keys.drop k) ((c.keys.take k).map id) k) ∧ zz = c.keys.length - k) _ ⟨_, rfl, 0, h1, rfl, hS, (Nat.zero_le _), (rfl), rfl⟩ ?_
      clear hS
      rintro f w _ ⟨k, h1, h7, hS, hk, hI, rfl⟩
      refine seq ?_
      refine seq ?_
      refine region ?_
      refine sv (yMove h7) ?_
      refine sv (fa26_1 h1) ?_
      refine sv (yLdB rfl Try.isAgg23 (hS.at _) rfl) ?_
      refine sv (yLen rfl Try.underlying23) ?_
      refine sv (yLss rfl rfl) ?_
      refine nil ?_
      show Code.wp _ _ _ _ _
      refine cond rfl (fun c47 => ?_) (fun c47 => ?_)
      ·
        simp only [Bool.and_eq_true, Bool.or_eq_true, Bool.and_eq_false_iff, Bool.or_eq_false_iff, decide_eq_true_eq, decide_eq_false_iff_not, Bool.not_eq_true, Bool.not_eq_false, Bool.not_not, Bool.not_eq_eq_eq_not, Bool.not_true, Bool.not_false, Bool.false_eq_true, Bool.true_eq_false, ne_eq, Decidable.not_not, not_false_eq_true, not_true_eq_false] at c47
        refine skip ?_
        show Code.wp _ _ _ _ _
        refine seq ?_
        refine block ?_
        refine seq ?_
        refine region ?_
        obtain ⟨x, hx, hd⟩ := drop_of (l := c.keys) (k := k) (by omega)
        refine sv (yLdBA h1 Try.isAgg26 Try.sizeOf26 (hS.at _) rfl rfl) ?_
        refine sv (yMove h7) ?_
        refine scall Try.call68 (.cons rfl (.cons rfl .nil)) (c_rkey (h.ext hS.ext) hx) ?_
        rintro _ w ⟨rfl, hE⟩; replace hS := hS.step hE; clear hE
        refine sv (yAsg rfl) ?_
        refine nil ?_
        show Code.wp _ _ _ _ _
        refine seq ?_
        refine region ?_
        refine sv (yMove rfl) ?_
        refine sv (yNeq rfl rfl) ?_
        refine nil ?_
        show Code.wp _ _ _ _ _
        refine cond rfl (fun c54 => ?_) (fun c54 => ?_)
        ·
          simp only [Bool.and_eq_true, Bool.or_eq_true, Bool.and_eq_false_iff, Bool.or_eq_false_iff, decide_eq_true_eq, decide_eq_false_iff_not, Bool.not_eq_true, Bool.not_eq_false, Bool.not_not, Bool.not_eq_eq_eq_not, Bool.not_true, Bool.not_false, Bool.false_eq_true, Bool.true_eq_false, ne_eq, Decidable.not_not, not_false_eq_true, not_true_eq_false] at c54
          refine seq ?_
          refine region ?_
          refine sv (yMove h7) ?_
          refine sv (yMove rfl) ?_
          refine sv (yAsg rfl) ?_
          refine sv (yAsg rfl) ?_
          refine sv (yAsg rfl) ?_
          refine nil ?_
          show Code.wp _ _ _ _ _
          have hfin := checkC_3 hsz ho0 (hI.trans (namedR_hit hd c54)) c54
          refine wp_ret (blockR (thenR (thenR (blockR (thenR ?_)))))
          exact retV (res3 rfl (eqI (by rw [hfin])) (eqI (by rw [hfin])) (eqI (by rw [hfin]))) hS.ext
        ·
          simp only [Bool.and_eq_true, Bool.or_eq_true, Bool.and_eq_false_iff, Bool.or_eq_false_iff, decide_eq_true_eq, decide_eq_false_iff_not, Bool.not_eq_true, Bool.not_eq_false, Bool.not_not, Bool.not_eq_eq_eq_not, Bool.not_true, Bool.not_false, Bool.false_eq_true, Bool.true_eq_false, ne_eq, Decidable.not_not, not_false_eq_true, not_true_eq_false] at c54
          refine skip ?_
          show Code.wp _ _ _ _ _
          refine region ?_
          refine sv (yMove h7) ?_
          refine sv (yAdd rfl rfl ⟨by omega, by omega⟩) ?_
          refine sv (yAsg rfl) ?_
          refine nil ?_
          exact ⟨_, _, rfl, ⟨k + 1, h1, rfl, hS, (by omega), (by rw [hI]; exact namedR_step hx hd c54), rfl⟩, by omega⟩
      ·
        simp only [Bool.and_eq_true, Bool.or_eq_true, Bool.and_eq_false_iff, Bool.or_eq_false_iff, decide_eq_true_eq, decide_eq_false_iff_not, Bool.not_eq_true, Bool.not_eq_false, Bool.not_not, Bool.not_eq_eq_eq_not, Bool.not_true, Bool.not_false, Bool.false_eq_true, Bool.true_eq_false, ne_eq, Decidable.not_not, not_false_eq_true, not_true_eq_false] at c47
        have hk0 : (namedR id (fun _ => 0) c.keys [] 0).2 = 0 := by rw [hI, namedR_end (by omega)]
        refine exit ?_
        show Code.wp _ _ _ _ _
        refine seq ?_
        refine seq ?_
        refine region ?_
        refine sv (yAsg rfl) ?_
        refine nil ?_
        show Code.wp _ _ _ _ _
        refine block ?_
        refine loop (fun f w zz => ∃ (k : Nat), f 1 = .pointer (some ⟨b1, 0, none⟩) ∧ f 9 = .int .i64 (k : Int) ∧ StX [] w0 w [blk b1 [.slice a c.ops.length cap, .slice ak c.keys.length ck, .slice an c.kinds.length cn] 26] ∧ (k ≤ c.kinds.length) ∧ (namedR (·.name) (kndE c.keys.length) c.kinds [] 0 = namedR (·.name) (kndE c.keys.length) (c.kinds.drop k) ((c.kinds.take k).map (·.name)) k) ∧ zz = c.kinds.length - k) _ ⟨_, rfl, 0, h1, rfl, hS, (Nat.zero_le _), (rfl), rfl⟩ ?_
        clear hS
        rintro f w _ ⟨k, h1, h9, hS, hk, hI, rfl⟩
        refine seq ?_
        refine seq ?_
        refine region ?_
        refine sv (yMove h9) ?_
        refine sv (fa26_2 h1) ?_
        refine sv (yLdB rfl Try.isAgg24 (hS.at _) rfl) ?_
        refine sv (yLen rfl Try.underlying24) ?_
        refine sv (yLss rfl rfl) ?_
        refine nil ?_
        show Code.wp _ _ _ _ _
        refine cond rfl (fun c61 => ?_) (fun c61 => ?_)
        ·
          simp only [Bool.and_eq_true, Bool.or_eq_true, Bool.and_eq_false_iff, Bool.or_eq_false_iff, decide_eq_true_eq, decide_eq_false_iff_not, Bool.not_eq_true, Bool.not_eq_false, Bool.not_not, Bool.not_eq_eq_eq_not, Bool.not_true, Bool.not_false, Bool.false_eq_true, Bool.true_eq_false, ne_eq, Decidable.not_not, not_false_eq_true, not_true_eq_false] at c61
          refine skip ?_
          show Code.wp _ _ _ _ _
          refine seq ?_
          refine block ?_
          refine seq ?_
          refine region ?_
          obtain ⟨x, hx, hd⟩ := drop_of (l := c.kinds) (k := k) (by omega)
          refine sv (yLdBA h1 Try.isAgg26 Try.sizeOf26 (hS.at _) rfl rfl) ?_
          refine sv (yMove h9) ?_
          refine scall Try.call69 (.cons rfl (.cons rfl .nil)) (c_rkind (h.ext hS.ext) hx) ?_
          rintro _ w ⟨rfl, hE⟩; replace hS := hS.step hE; clear hE
          refine sv (yAsg rfl) ?_
          refine nil ?_
          show Code.wp _ _ _ _ _
          refine seq ?_
          refine region ?_
          refine sv (yMove rfl) ?_
          refine sv (yNeq rfl rfl) ?_
          refine nil ?_
          show Code.wp _ _ _ _ _
          refine cond rfl (fun c68 => ?_) (fun c68 => ?_)
          ·
            simp only [Bool.and_eq_true, Bool.or_eq_true, Bool.and_eq_false_iff, Bool.or_eq_false_iff, decide_eq_true_eq, decide_eq_false_iff_not, Bool.not_eq_true, Bool.not_eq_false, Bool.not_not, Bool.not_eq_eq_eq_not, Bool.not_true, Bool.not_false, Bool.false_eq_true, Bool.true_eq_false, ne_eq, Decidable.not_not, not_false_eq_true, not_true_eq_false] at c68
            refine seq ?_
            refine region ?_
            refine sv (yMove h9) ?_
            refine sv (yMove rfl) ?_
            refine sv (yAsg rfl) ?_
            refine sv (yAsg rfl) ?_
            refine sv (yAsg rfl) ?_
            refine nil ?_
            show Code.wp _ _ _ _ _
            have hfin := checkC_4 hsz ho0 hk0 (hI.trans (namedR_hit hd c68)) c68
            refine wp_ret (blockR (thenR (thenR (blockR (thenR ?_)))))
            exact retV (res3 rfl (eqI (by rw [hfin])) (eqI (by rw [hfin])) (eqI (by rw [hfin]))) hS.ext
          ·
            simp only [Bool.and_eq_true, Bool.or_eq_true, Bool.and_eq_false_iff, Bool.or_eq_false_iff, decide_eq_true_eq, decide_eq_false_iff_not, Bool.not_eq_true, Bool.not_eq_false, Bool.not_not, Bool.not_eq_eq_eq_not, Bool.not_true, Bool.not_false, Bool.false_eq_true, Bool.true_eq_false, ne_eq, Decidable.not_not, not_false_eq_true, not_true_eq_false] at c68
            refine skip ?_
            show Code.wp _ _ _ _ _
            refine region ?_
            refine sv (yMove h9) ?_
            refine sv (yAdd rfl rfl ⟨by omega, by omega⟩) ?_
            refine sv (yAsg rfl) ?_
            refine nil ?_
            exact ⟨_, _, rfl, ⟨k + 1, h1, rfl, hS, (by omega), (by rw [hI]; exact namedR_step hx hd c68), rfl⟩, by omega⟩
        ·
          simp only [Bool.and_eq_true, Bool.or_eq_true, Bool.and_eq_false_iff, Bool.or_eq_false_iff, decide_eq_true_eq, decide_eq_false_iff_not, Bool.not_eq_true, Bool.not_eq_false, Bool.not_not, Bool.not_eq_eq_eq_not, Bool.not_true, Bool.not_false, Bool.false_eq_true, Bool.true_eq_false, ne_eq, Decidable.not_not, not_false_eq_true, not_true_eq_false] at c61
          refine exit ?_
          show Code.wp _ _ _ _ _
          refine seq ?_
          refine region ?_
          refine sv (yAsg rfl) ?_
          refine sv (yAsg rfl) ?_
          refine sv (yAsg rfl) ?_
          refine nil ?_
          show Code.wp _ _ _ _ _
          have hn0 : (namedR (·.name) (kndE c.keys.length) c.kinds [] 0).2 = 0 := by rw [hI, namedR_end (by omega)]
          have hfin := checkC_0 hsz ho0 hk0 hn0
          refine wp_ret ?_
          exact retV (res3 rfl (eqI (by rw [hfin])) (eqI (by rw [hfin])) (eqI (by rw [hfin]))) hS.ext
end Go.Proofs.Ytghgnofilbnbaaa
/- part C24 -/
namespace Bx
open Go Go.RowKit
def onE1 (c : Crew) (i : Int) : Int := if (checkC c).2.2 ≠ 0 then (checkC c).2.2 else if outB i 0 ((c.ops.length : Int) - 1) = true then 4 else 0
theorem onE1_yes {c : Crew} {i : Int} (h : (decide ((checkC c).2.2 = 0) && !inB i 0 ((c.ops.length : Int) - 1)) = true) : onE1 c i = 4 := by
  rw [Bool.and_eq_true, decide_eq_true_eq, inB_not] at h
  unfold onE1
  rw [if_neg (not_not_intro h.1), if_pos h.2]
theorem onE1_no {c : Crew} {i : Int} (h : (decide ((checkC c).2.2 = 0) && !inB i 0 ((c.ops.length : Int) - 1)) = false) : onE1 c i = (checkC c).2.2 := by
  rw [inB_not, Bool.and_eq_false_iff, decide_eq_false_iff_not] at h
  unfold onE1
  by_cases h0 : (checkC c).2.2 = 0
  · rw [if_neg (not_not_intro h0), if_neg (by rw [h.resolve_left (not_not_intro h0)]; decide), h0]
  · rw [if_pos h0]
theorem onE2_yes {c : Crew} {i m : Int} (h : (decide (onE1 c i = 0) && !inB m 0 100000) = true) : onE c i m = 7 := by
  rw [Bool.and_eq_true, decide_eq_true_eq, inB_not] at h
  obtain ⟨h1, h2⟩ := h
  unfold onE1 at h1
  split at h1
  · rename_i h; exact absurd h1 h
  split at h1
  · cases h1
  · rename_i h3 h4
    unfold onE
    rw [if_neg h3, if_neg h4, if_pos h2]
theorem onE2_no {c : Crew} {i m : Int} (h : (decide (onE1 c i = 0) && !inB m 0 100000) = false) : onE c i m = onE1 c i := by
  rw [inB_not, Bool.and_eq_false_iff, decide_eq_false_iff_not] at h
  unfold onE onE1
  split
  · rfl
  split
  · rfl
  · rename_i h3 h4
    rcases h with h | h
    · unfold onE1 at h; rw [if_neg h3, if_neg h4] at h; exact absurd rfl h
    · rw [if_neg (by rw [show neverB m = false from h]; decide)]
theorem onE_in {c : Crew} {i m : Int} (h : onE c i m = 0) : (0 ≤ i ∧ i < c.ops.length) ∧ 0 ≤ m ∧ m ≤ 100000 := by
  unfold onE at h
  split at h
  · rename_i h1; exact absurd h h1
  split at h
  · cases h
  split at h
  · cases h
  · rename_i h1 h2 h3
    rw [Bool.not_eq_true, outB_false] at h2
    rw [Bool.not_eq_true, neverB, outB_false] at h3
    omega
def ableE1 (c : Crew) (k : Int) : Int := if (checkC c).2.2 ≠ 0 then (checkC c).2.2 else if outB k 0 ((c.kinds.length : Int) - 1) = true then 4 else 0
theorem ableE1_yes {c : Crew} {i : Int} (h : (decide ((checkC c).2.2 = 0) && !inB i 0 ((c.kinds.length : Int) - 1)) = true) : ableE1 c i = 4 := by
  rw [Bool.and_eq_true, decide_eq_true_eq, inB_not] at h
  unfold ableE1
  rw [if_neg (not_not_intro h.1), if_pos h.2]
theorem ableE1_no {c : Crew} {i : Int} (h : (decide ((checkC c).2.2 = 0) && !inB i 0 ((c.kinds.length : Int) - 1)) = false) : ableE1 c i = (checkC c).2.2 := by
  rw [inB_not, Bool.and_eq_false_iff, decide_eq_false_iff_not] at h
  unfold ableE1
  by_cases h0 : (checkC c).2.2 = 0
  · rw [if_neg (not_not_intro h0), if_neg (by rw [h.resolve_left (not_not_intro h0)]; decide), h0]
  · rw [if_pos h0]
theorem ableE2_yes {c : Crew} {i m : Int} (h : (decide (ableE1 c i = 0) && !inB m 0 100000) = true) : ableE c i m = 7 := by
  rw [Bool.and_eq_true, decide_eq_true_eq, inB_not] at h
  obtain ⟨h1, h2⟩ := h
  unfold ableE1 at h1
  split at h1
  · rename_i h; exact absurd h1 h
  split at h1
  · cases h1
  · rename_i h3 h4
    unfold ableE
    rw [if_neg h3, if_neg h4, if_pos h2]
theorem ableE2_no {c : Crew} {i m : Int} (h : (decide (ableE1 c i = 0) && !inB m 0 100000) = false) : ableE c i m = ableE1 c i := by
  rw [inB_not, Bool.and_eq_false_iff, decide_eq_false_iff_not] at h
  unfold ableE ableE1
  split
  · rfl
  split
  · rfl
  · rename_i h3 h4
    rcases h with h | h
    · unfold ableE1 at h; rw [if_neg h3, if_neg h4] at h; exact absurd rfl h
    · rw [if_neg (by rw [show neverB m = false from h]; decide)]
theorem ableE_in {c : Crew} {i m : Int} (h : ableE c i m = 0) : (0 ≤ i ∧ i < c.kinds.length) ∧ 0 ≤ m ∧ m ≤ 100000 := by
  unfold ableE at h
  split at h
  · rename_i h1; exact absurd h h1
  split at h
  · cases h
  split at h
  · cases h
  · rename_i h1 h2 h3
    rw [Bool.not_eq_true, outB_false] at h2
    rw [Bool.not_eq_true, neverB, outB_false] at h3
    omega
theorem ableR_hit {c : Crew} {k m : Int} {p : Int × Int} (h : ([] : List (Int × Int)) ++ [p] <+: pairsL c (kndAt c k) m) : ableR c k m = (p.1, p.2, true) := by
  obtain ⟨r, hr⟩ := h
  unfold ableR
  rw [← hr]; rfl
theorem ableR_nil {c : Crew} {k m : Int} (h : pairsL c (kndAt c k) m = []) : ableR c k m = (0, 0, false) := by unfold ableR; rw [h]
theorem ableR_no {c : Crew} {k m : Int} (hE : ableE c k m = 0) (h : (ableR c k m).2.2 = false) : ableF c k m = (0, 0, 9) := by
  unfold ableR at h
  cases hp : pairsL c (kndAt c k) m with
  | nil => exact ableF_nil hE hp
  | cons p l => rw [hp] at h; cases h
theorem ableR_yes {c : Crew} {k m : Int} (hE : ableE c k m = 0) (h : (ableR c k m).2.2 = true) : ableF c k m = ((ableR c k m).1, (ableR c k m).2.1, 0) := by
  unfold ableR at h ⊢
  cases hp : pairsL c (kndAt c k) m with
  | nil => rw [hp] at h; cases h
  | cons p l => exact ableF_cons hE hp
theorem fit_no {c : Crew} {m g gr : Int} {i : Nat} (hg : gradeOf c (i : Int) = gr) (h : ((!onB c i m) || decide (gr < g)) = true) : fitB c m i g = false := by
  rw [fitB_nat, hg]
  simp only [Bool.or_eq_true, Bool.not_eq_true', decide_eq_true_eq] at h
  rw [Bool.and_eq_false_iff, decide_eq_false_iff_not]
  rcases h with h | h
  · exact .inr h
  · exact .inl (by omega)
theorem fit_yes {c : Crew} {m g gr : Int} {i : Nat} (hg : gradeOf c (i : Int) = gr) (h : ((!onB c i m) || decide (gr < g)) = false) : fitB c m i g = true := by
  rw [fitB_nat, hg]
  simp only [Bool.or_eq_false_iff, Bool.not_eq_false', decide_eq_false_iff_not] at h
  rw [Bool.and_eq_true, decide_eq_true_eq]
  exact ⟨by omega, h.1⟩
theorem fit_second {c : Crew} {m g gr i : Int} {k : Nat} (hg : gradeOf c (k : Int) = gr) : ((decide ((k : Int) ≠ i) && onB c k m) && decide (g ≤ gr)) = (decide ((k : Int) ≠ i) && fitB c m k g) := by
  rw [fitB_nat, hg, Bool.and_assoc, Bool.and_comm (onB c (k : Int) m)]
end Bx
namespace Bx
open Go Go.RowKit
def RTwoI (_ : World) (cs : List Value) (p : Int × Int) : Prop := cs = [.int .i64 p.1, .int .i64 p.2] ∧ I64 p.1 ∧ I64 p.2
theorem stepE_1 {c : Crew} {i : Int} {x : Stp} (h : (!inB x.kind 0 ((c.kinds.length : Int) - 1)) = true) : stepE c i x = 4 := by unfold stepE; rw [if_pos (by rw [← inB_not]; exact h)]
theorem stepE_2 {c : Crew} {i : Int} {x : Stp} (h : (!inB x.kind 0 ((c.kinds.length : Int) - 1)) = false) (h2 : (!inB x.subj 0 1000) = true) : stepE c i x = 7 := by unfold stepE; rw [if_neg (by rw [← inB_not, h]; decide), if_pos (by rw [← inB_not]; exact h2)]
theorem stepE_3 {c : Crew} {i : Int} {x : Stp} (h : (!inB x.kind 0 ((c.kinds.length : Int) - 1)) = false) (h2 : (!inB x.subj 0 1000) = false) (h3 : (!inB x.after (-1) (i - 1)) = true) : stepE c i x = 4 := by
  unfold stepE; rw [if_neg (by rw [← inB_not, h]; decide), if_neg (by rw [← inB_not, h2]; decide), if_pos (by rw [← inB_not]; exact h3)]
theorem stepE_4 {c : Crew} {i : Int} {x : Stp} (h : (!inB x.kind 0 ((c.kinds.length : Int) - 1)) = false) (h2 : (!inB x.subj 0 1000) = false) (h3 : (!inB x.after (-1) (i - 1)) = false) (h4 : ((!inB x.most 0 240) || (!inB x.least 0 x.most)) = true) : stepE c i x = 7 := by
  unfold stepE; rw [if_neg (by rw [← inB_not, h]; decide), if_neg (by rw [← inB_not, h2]; decide), if_neg (by rw [← inB_not, h3]; decide), if_pos (by rw [← inB_not, ← inB_not]; exact h4)]
theorem stepE_0 {c : Crew} {i : Int} {x : Stp} (h : (!inB x.kind 0 ((c.kinds.length : Int) - 1)) = false) (h2 : (!inB x.subj 0 1000) = false) (h3 : (!inB x.after (-1) (i - 1)) = false) (h4 : ((!inB x.most 0 240) || (!inB x.least 0 x.most)) = false) : stepE c i x = 0 := by
  unfold stepE; rw [if_neg (by rw [← inB_not, h]; decide), if_neg (by rw [← inB_not, h2]; decide), if_neg (by rw [← inB_not, h3]; decide), if_neg (by rw [← inB_not, ← inB_not, h4]; decide)]
theorem scriptF_1 {c : Crew} {s : Scr} (h : (checkC c).2.2 ≠ 0) : scriptF c s = (-1, (checkC c).2.2) := if_pos h
theorem scriptF_2 {c : Crew} {s : Scr} (h : (checkC c).2.2 = 0) (h2 : (!isName s.name) = true) : scriptF c s = (-1, 6) := by unfold scriptF; rw [if_neg (not_not_intro h), if_pos h2]
theorem scriptF_3 {c : Crew} {s : Scr} (h : (checkC c).2.2 = 0) (h2 : (!isName s.name) = false) (h3 : (!inB (s.steps.length : Int) 1 10) = true) : scriptF c s = (-1, 3) := by
  unfold scriptF; rw [if_neg (not_not_intro h), if_neg (by rw [h2]; decide), if_pos (by rw [← inB_not]; exact h3)]
theorem scriptF_4 {c : Crew} {s : Scr} (h : (checkC c).2.2 = 0) (h2 : (!isName s.name) = false) (h3 : (!inB (s.steps.length : Int) 1 10) = false) : scriptF c s = firstS c s.steps 0 := by
  unfold scriptF; rw [if_neg (not_not_intro h), if_neg (by rw [h2]; decide), if_neg (by rw [← inB_not, h3]; decide)]
theorem winS_ref {l : List (Int × Int)} {x : Stp} {a : Nat} {y : Int × Int} (ha : x.after = a) (hy : l[a]? = some y) : winS l x = (y.1 + x.least, y.2 + x.most) := by
  rw [winS_yes ha hy, Int.add_comm, Int.add_comm x.most]
end Bx
/- part Ck38 -/
namespace Go.Proofs.Ytghgnofilbnbaaa
open Go Bx
set_option maxHeartbeats 1000000 in
/-- barrage/barrageref10.on -/
theorem c_ron {c : Crew} {cs : List Value} {who m : Int} {w0 : World} (h : RCrew w0 cs c) (hw : 0 ≤ who ∧ who < c.ops.length) : CV Try.prog 71 #[.agg cs.toArray, .int .i64 who, .int .i64 m] w0 (.bool (onB c who m)) := by
  obtain ⟨ov, kv, nv, rfl, hso, hsk, hsn, hrm⟩ := id h
  obtain ⟨a, cap, rfl, hcap, hmx, hel⟩ := id hso
  obtain ⟨i, rfl⟩ := Int.eq_ofNat_of_zero_le hw.1
  obtain ⟨u, hxq, hdq⟩ := drop_of (l := c.ops) (k := i) (by omega)
  obtain ⟨bq, oq, csq, haq, hlenq, hcsq, hRq⟩ := hel (i) (by omega)
  obtain rfl : u = c.ops[i] := (List.getElem?_eq_some_iff.1 hxq).2.symm
  generalize c.ops[i] = u at hxq hdq hRq
  have hR := hRq
  obtain ⟨dv, rfl, -, -, hsd, -⟩ := id hR
  obtain ⟨ad, cd, rfl, -⟩ := id hsd
  obtain ⟨ad2, cd2, hvv, hdcap, hdmx, held⟩ := id hsd
  obtain ⟨rfl, rfl⟩ := slice_inj hvv.symm
  have honb : onB c (i : Int) m = u.duty.any (spnAt m) := by unfold onB oprAt; rw [Int.toNat_natCast, getD_hit hxq]
  refine enter Try.func71 rfl Try.ntmps71 rfl ?_
  have hS := St.start w0
  refine seq ?_
  refine region ?_
  refine sbox hS rfl rfl ?_; clear hS; intro b3 w hS
  refine sv (yAsg rfl) ?_
  refine nil ?_
  show Code.wp _ _ _ _ _
  refine seq ?_
  refine region ?_
  refine sv (fa26_0 rfl) ?_
  refine sv (yLdB rfl Try.isAgg22 (hS.at _) rfl) ?_
  refine sv (yMove rfl) ?_
  refine sv (yIxa rfl haq rfl Try.runUnderlying22 Try.sizeOf42 (by omega) (by omega)) ?_
  refine sv (fa42_2 rfl) ?_
  refine sv (yLd rfl Try.isAgg40 ((hcsq.ext hS.ext).at (j := 2) rfl)) ?_
  refine sv (yAsg rfl) ?_
  refine nil ?_
  show Code.wp _ _ _ _ _
  refine seq ?_
  refine seq ?_
  refine region ?_
  refine sv (yAsg rfl) ?_
  refine nil ?_
  show Code.wp _ _ _ _ _
  refine block ?_
  refine loop (fun f w zz => ∃ (k : Nat), f 2 = .int .i64 m ∧ f 7 = .slice ad u.duty.length cd ∧ f 8 = .int .i64 (k : Int) ∧ StX [] w0 w [blk b3 [.slice a c.ops.length cap, kv, nv] 26] ∧ (k ≤ u.duty.length) ∧ ((u.duty.take k).any (spnAt m) = false) ∧ zz = u.duty.length - k) _ ⟨_, rfl, 0, rfl, rfl, rfl, hS, (Nat.zero_le _), (rfl), rfl⟩ ?_
  clear hS
  rintro f w _ ⟨k, h2, h7, h8, hS, hk, hN, rfl⟩
  refine seq ?_
  refine seq ?_
  refine region ?_
  refine sv (yMove h8) ?_
  refine sv (yMove h7) ?_
  refine sv (yLen rfl Try.underlying40) ?_
  refine sv (yLss rfl rfl) ?_
  refine nil ?_
  show Code.wp _ _ _ _ _
  refine cond rfl (fun c18 => ?_) (fun c18 => ?_)
  ·
    simp only [Bool.and_eq_true, Bool.or_eq_true, Bool.and_eq_false_iff, Bool.or_eq_false_iff, decide_eq_true_eq, decide_eq_false_iff_not, Bool.not_eq_true, Bool.not_eq_false, Bool.not_not, Bool.not_eq_eq_eq_not, Bool.not_true, Bool.not_false, Bool.false_eq_true, Bool.true_eq_false, ne_eq, Decidable.not_not, not_false_eq_true, not_true_eq_false] at c18
    refine skip ?_
    show Code.wp _ _ _ _ _
    refine seq ?_
    refine block ?_
    refine seq ?_
    refine region ?_
    obtain ⟨s, hxs, hds⟩ := drop_of (l := u.duty) (k := k) (by omega)
    obtain ⟨bs, os, css, has, hlens, hcss, hRs⟩ := held (k) (by omega)
    obtain rfl : s = u.duty[k] := (List.getElem?_eq_some_iff.1 hxs).2.symm
    generalize u.duty[k] = s at hxs hds hRs
    obtain ⟨rfl, hsi⟩ := hRs
    refine sv (yMove h7) ?_
    refine sv (yMove h8) ?_
    refine sv (yIxa rfl has rfl Try.runUnderlying40 Try.sizeOf44 (by omega) (by omega)) ?_
    refine sv (fa44_0 rfl) ?_
    refine sv (yLd rfl Try.isAgg3 ((hcss.ext hS.ext).at (j := 0) rfl)) ?_
    refine sv (yMove h2) ?_
    refine sv (yLeq rfl rfl) ?_
    refine sv (yMove rfl) ?_
    refine sg rfl rfl rfl (fun g => (yMove h2)) (fun v29 g29 => ?_)
    refine sg rfl rfl rfl (fun g => (yMove h7)) (fun v30 g30 => ?_)
    refine sg rfl rfl rfl (fun g => (yMove h8)) (fun v31 g31 => ?_)
    refine sg rfl rfl rfl (fun g => (yIxa (g30.1 g) has (g31.1 g) Try.runUnderlying40 Try.sizeOf44 (by omega) (by omega))) (fun v32 g32 => ?_)
    refine sg rfl rfl rfl (fun g => (fa44_1 (g32.1 g))) (fun v33 g33 => ?_)
    refine sg rfl rfl rfl (fun g => (yLd (g33.1 g) Try.isAgg3 ((hcss.ext hS.ext).at (j := 1) rfl))) (fun v34 g34 => ?_)
    refine sg rfl rfl rfl (fun g => (yLss (g29.1 g) (g34.1 g))) (fun v35 g35 => ?_)
    refine sv (yAnd rfl (fun hB => (g35.1 hB)) rfl) ?_
    refine nil ?_
    show Code.wp _ _ _ _ _
    refine cond rfl (fun c36 => ?_) (fun c36 => ?_)
    ·
      refine seq ?_
      refine region ?_
      refine sv (yAsg rfl) ?_
      refine nil ?_
      show Code.wp _ _ _ _ _
      refine wp_ret (blockR (thenR (thenR (blockR (thenR ?_)))))
      exact retV (res1 rfl (eqB (honb.trans (List.any_eq_true.2 ⟨s, List.mem_of_getElem? hxs, c36⟩)))) hS.ext
    ·
      refine skip ?_
      show Code.wp _ _ _ _ _
      refine region ?_
      refine sv (yMove h8) ?_
      refine sv (yAdd rfl rfl ⟨by omega, by omega⟩) ?_
      refine sv (yAsg rfl) ?_
      refine nil ?_
      exact ⟨_, _, rfl, ⟨k + 1, h2, h7, rfl, hS, (by omega), (by rw [take_snoc hxs, List.any_append, hN, List.any_cons, List.any_nil, show spnAt m s = false from c36]; rfl), rfl⟩, by omega⟩
  ·
    simp only [Bool.and_eq_true, Bool.or_eq_true, Bool.and_eq_false_iff, Bool.or_eq_false_iff, decide_eq_true_eq, decide_eq_false_iff_not, Bool.not_eq_true, Bool.not_eq_false, Bool.not_not, Bool.not_eq_eq_eq_not, Bool.not_true, Bool.not_false, Bool.false_eq_true, Bool.true_eq_false, ne_eq, Decidable.not_not, not_false_eq_true, not_true_eq_false] at c18
    refine exit ?_
    show Code.wp _ _ _ _ _
    refine seq ?_
    refine region ?_
    refine sv (yAsg rfl) ?_
    refine nil ?_
    show Code.wp _ _ _ _ _
    obtain rfl : k = u.duty.length := by omega
    rw [List.take_length] at hN
    refine wp_ret ?_
    exact retV (res1 rfl (eqB (honb.trans hN))) hS.ext
set_option maxHeartbeats 2000000 in
/-- barrage/barrageref10.On -/
theorem c_rOn {c : Crew} {cs : List Value} {who m : Int} {w0 : World} (h : RCrew w0 cs c) : CV Try.prog 34 #[.agg cs.toArray, .int .i64 who, .int .i64 m] w0 (.tuple #[.bool (onF c who m).1, .int .i64 (onF c who m).2]) := by
  obtain ⟨ov, kv, nv, rfl, hso, hsk, hsn, hrm⟩ := id h
  obtain ⟨a, cap, rfl, hcap, hmx, hel⟩ := id hso
  refine enter Try.func34 rfl Try.ntmps34 rfl ?_
  have hS := St.start w0
  refine seq ?_
  refine region ?_
  refine sbox hS rfl rfl ?_; clear hS; intro b3 w hS
  refine sv (yAsg rfl) ?_
  refine sv (yAsg rfl) ?_
  refine nil ?_
  show Code.wp _ _ _ _ _
  refine seq ?_
  refine region ?_
  refine sv (yLdBA rfl Try.isAgg26 Try.sizeOf26 (hS.at _) rfl rfl) ?_
  refine scall Try.call32 (.cons rfl .nil) (c_rCheck (h.ext hS.ext)) ?_
  rintro _ w ⟨rfl, hE⟩; replace hS := hS.step hE; clear hE
  refine sv (yMove rfl) ?_
  refine sv (yExt rfl rfl) ?_
  refine sv (yExt rfl rfl) ?_
  refine sv (yExt rfl rfl) ?_
  refine sv (yAsg rfl) ?_
  refine sv (yAsg rfl) ?_
  refine sv (yAsg rfl) ?_
  refine nil ?_
  show Code.wp _ _ _ _ _
  refine seqJ (n := 42) (fun f w => f 1 = .int .i64 who ∧ f 2 = .int .i64 m ∧ f 3 = .pointer (some ⟨b3, 0, none⟩) ∧ f 10 = .int .i64 (onE1 c who) ∧ StX [] w0 w [blk b3 [.slice a c.ops.length cap, kv, nv] 26] ∧ True) ?_ ?_
  ·
    refine seq ?_
    refine region ?_
    refine sv (yMove rfl) ?_
    refine sv (yEql rfl rfl) ?_
    refine sv (yMove rfl) ?_
    refine sg rfl rfl rfl (fun g => (yMove rfl)) (fun v20 g20 => ?_)
    refine sg rfl rfl rfl (fun g => (fa26_0 rfl)) (fun v21 g21 => ?_)
    refine sg rfl rfl rfl (fun g => (yLdB (g21.1 g) Try.isAgg22 (hS.at _) rfl)) (fun v22 g22 => ?_)
    refine sg rfl rfl rfl (fun g => (yLen (g22.1 g) Try.underlying22)) (fun v23 g23 => ?_)
    refine sg rfl rfl rfl (fun g => (ySub (g23.1 g) rfl ⟨by omega, by omega⟩)) (fun v24 g24 => ?_)
    refine sgc hS rfl rfl rfl Try.call54 (fun g => (.cons (g20.1 g) (.cons rfl (.cons (g24.1 g) .nil)))) (fun g => c_in) ?_; clear hS; intro v25 w hS g25
    refine sg rfl rfl rfl (fun g => (yNot (g25.1 g))) (fun v26 g26 => ?_)
    refine sv (yAnd rfl (fun hB => (g26.1 hB)) rfl) ?_
    refine nil ?_
    show Code.wp _ _ _ _ _
    refine cond rfl (fun c27 => ?_) (fun c27 => ?_)
    ·
      refine region ?_
      refine sv (yAsg rfl) ?_
      refine nil ?_
      exact ⟨_, rfl, rfl, rfl, rfl, rfl.trans (congrArg (Value.int .i64) (onE1_yes c27).symm), hS, trivial⟩
    ·
      refine skip ?_
      exact ⟨_, rfl, rfl, rfl, rfl, rfl.trans (congrArg (Value.int .i64) (onE1_no c27).symm), hS, trivial⟩
  ·
    clear hS; rintro f w ⟨h1, h2, h3, h10, hS, -⟩
    refine seqJ (n := 42) (fun f w => f 1 = .int .i64 who ∧ f 2 = .int .i64 m ∧ f 3 = .pointer (some ⟨b3, 0, none⟩) ∧ f 10 = .int .i64 (onE c who m) ∧ StX [] w0 w [blk b3 [.slice a c.ops.length cap, kv, nv] 26] ∧ True) ?_ ?_
    ·
      refine seq ?_
      refine region ?_
      refine sv (yMove h10) ?_
      refine sv (yEql rfl rfl) ?_
      refine sv (yMove rfl) ?_
      refine sg rfl rfl rfl (fun g => (yMove h2)) (fun v31 g31 => ?_)
      refine sgc hS rfl rfl rfl Try.call46 (fun g => (.cons (g31.1 g) .nil)) (fun g => c_rminute) ?_; clear hS; intro v32 w hS g32
      refine sg rfl rfl rfl (fun g => (yNot (g32.1 g))) (fun v33 g33 => ?_)
      refine sv (yAnd rfl (fun hB => (g33.1 hB)) rfl) ?_
      refine nil ?_
      show Code.wp _ _ _ _ _
      refine cond rfl (fun c34 => ?_) (fun c34 => ?_)
      ·
        refine region ?_
        refine sv (yAsg rfl) ?_
        refine nil ?_
        exact ⟨_, rfl, h1, h2, h3, rfl.trans (congrArg (Value.int .i64) (onE2_yes c34).symm), hS, trivial⟩
      ·
        refine skip ?_
        exact ⟨_, rfl, h1, h2, h3, h10.trans (congrArg (Value.int .i64) (onE2_no c34).symm), hS, trivial⟩
    ·
      clear hS; rintro f w ⟨h1, h2, h3, h10, hS, -⟩
      refine seq ?_
      refine seq ?_
      refine region ?_
      refine sv (yMove h10) ?_
      refine sv (yNeq rfl rfl) ?_
      refine nil ?_
      show Code.wp _ _ _ _ _
      refine cond rfl (fun c36 => ?_) (fun c36 => ?_)
      ·
        refine seq ?_
        refine region ?_
        refine sv (yMove h10) ?_
        refine sv (yAsg rfl) ?_
        refine sv (yAsg rfl) ?_
        refine nil ?_
        show Code.wp _ _ _ _ _
        have hfin : onF c who m = (false, onE c who m) := if_pos (of_decide_eq_true c36)
        refine wp_ret (thenR ?_)
        exact retV (res2 rfl (eqB (by rw [hfin])) (eqI (by rw [hfin]))) hS.ext
      ·
        refine skip ?_
        show Code.wp _ _ _ _ _
        refine seq ?_
        refine region ?_
        refine sv (yLdBA h3 Try.isAgg26 Try.sizeOf26 (hS.at _) rfl rfl) ?_
        refine sv (yMove h1) ?_
        refine sv (yMove h2) ?_
        have hE0 : onE c who m = 0 := by simpa using c36
        obtain ⟨hr1, -⟩ := onE_in hE0
        refine scall Try.call71 (.cons rfl (.cons rfl (.cons rfl .nil))) (c_ron (h.ext hS.ext) hr1) ?_
        rintro _ w ⟨rfl, hE⟩; replace hS := hS.step hE; clear hE
        refine sv (yAsg rfl) ?_
        refine sv (yAsg rfl) ?_
        refine nil ?_
        show Code.wp _ _ _ _ _
        have hfin : onF c who m = (onB c who m, 0) := if_neg (not_not_intro hE0)
        refine wp_ret ?_
        exact retV (res2 rfl (eqB (by rw [hfin])) (eqI (by rw [hfin]))) hS.ext
set_option maxHeartbeats 4000000 in
/-- barrage/barrageref10.able -/
theorem c_rable {c : Crew} {cs : List Value} {kd m : Int} {w0 : World} (h : RCrew w0 cs c) (hk0 : 0 ≤ kd ∧ kd < c.kinds.length) : CV Try.prog 72 #[.agg cs.toArray, .int .i64 kd, .int .i64 m] w0 (.tuple #[.int .i64 (ableR c kd m).1, .int .i64 (ableR c kd m).2.1, .bool (ableR c kd m).2.2]) := by
  obtain ⟨ov, kv, nv, rfl, hso, hsk, hsn, hrm⟩ := id h
  obtain ⟨a, cap, rfl, hcap, hmx, hel⟩ := id hso
  obtain ⟨an, cn, rfl, hncap, hnmx, heln⟩ := id hsn
  obtain ⟨kk, hkk⟩ := Int.eq_ofNat_of_zero_le hk0.1
  have hkl : kk < c.kinds.length := by omega
  obtain ⟨x, hxk, hdk⟩ := drop_of (l := c.kinds) (k := kk) (by omega)
  obtain ⟨bk, ok, csk, hak, hlenk, hcsk, hRk⟩ := heln (kk) (by omega)
  obtain rfl : x = c.kinds[kk] := (List.getElem?_eq_some_iff.1 hxk).2.symm
  generalize c.kinds[kk] = x at hxk hdk hRk
  obtain ⟨xv, rfl, -, -, -, -, hsx, -⟩ := hRk
  obtain ⟨axk, cxk, rfl, -⟩ := id hsx
  have hz := kndAt_hit hkk hxk
  refine enter Try.func72 rfl Try.ntmps72 rfl ?_
  have hS := St.start w0
  refine seq ?_
  refine region ?_
  refine sbox hS rfl rfl ?_; clear hS; intro b3 w hS
  refine sv (yAsg rfl) ?_
  refine sv (yAsg rfl) ?_
  refine sv (yAsg rfl) ?_
  refine nil ?_
  show Code.wp _ _ _ _ _
  refine seq ?_
  refine region ?_
  refine sv (fa26_2 rfl) ?_
  refine sv (yLdB rfl Try.isAgg24 (hS.at _) rfl) ?_
  refine sv (yMove rfl) ?_
  refine sv (yIxa rfl hak (rfl.trans (congrArg (Value.int .i64) hkk)) Try.runUnderlying24 Try.sizeOf79 (by omega) (by omega)) ?_
  refine sv (yLdA rfl Try.isAgg79 Try.sizeOf79 (hcsk.ext hS.ext) rfl) ?_
  refine salloc hS Try.zeroValue79 rfl ?_; clear hS; intro b9 w hS
  refine sst hS rfl rfl Try.sizeOf79 rfl rfl rfl rfl ?_; clear hS; intro w hS
  refine nil ?_
  show Code.wp _ _ _ _ _
  refine seq ?_
  refine seq ?_
  refine region ?_
  refine sv (yAsg rfl) ?_
  refine nil ?_
  show Code.wp _ _ _ _ _
  refine block ?_
  refine loop (fun f w zz => ∃ (i : Nat), f 2 = .int .i64 m ∧ f 3 = .pointer (some ⟨b3, 0, none⟩) ∧ f 9 = .pointer (some ⟨b9, 0, none⟩) ∧ f 10 = .int .i64 (i : Int) ∧ StX [] w0 w [blk b9 [.string x.name, .int .i64 x.grade, .int .i64 x.second, .int .i64 x.within, .slice axk x.keys.length cxk, .bool x.split] 79, blk b3 [.slice a c.ops.length cap, kv, .slice an c.kinds.length cn] 26] ∧ (i ≤ c.ops.length) ∧ (prP c x m i = []) ∧ zz = c.ops.length - i) _ ⟨_, rfl, 0, rfl, rfl, rfl, rfl, hS, (Nat.zero_le _), (rfl), rfl⟩ ?_
  clear hS
  rintro f w _ ⟨i, h2, h3, h9, h10, hS, hi, hP, rfl⟩
  refine seq ?_
  refine seq ?_
  refine region ?_
  refine sv (yMove h10) ?_
  refine sv (fa26_0 h3) ?_
  refine sv (yLdB rfl Try.isAgg22 (hS.at _) rfl) ?_
  refine sv (yLen rfl Try.underlying22) ?_
  refine sv (yLss rfl rfl) ?_
  refine nil ?_
  show Code.wp _ _ _ _ _
  refine cond rfl (fun c21 => ?_) (fun c21 => ?_)
  ·
    simp only [Bool.and_eq_true, Bool.or_eq_true, Bool.and_eq_false_iff, Bool.or_eq_false_iff, decide_eq_true_eq, decide_eq_false_iff_not, Bool.not_eq_true, Bool.not_eq_false, Bool.not_not, Bool.not_eq_eq_eq_not, Bool.not_true, Bool.not_false, Bool.false_eq_true, Bool.true_eq_false, ne_eq, Decidable.not_not, not_false_eq_true, not_true_eq_false] at c21
    refine skip ?_
    show Code.wp _ _ _ _ _
    refine seq ?_
    refine block ?_
    refine seq ?_
    refine seq ?_
    refine region_draw mixed (by kernel_rfl) hS ?_
    obtain ⟨u, hxu, hdu⟩ := drop_of (l := c.ops) (k := i) (by omega)
    obtain ⟨bu, ou, csu, hau, hlenu, hcsu, hRu⟩ := hel (i) (by omega)
    obtain rfl : u = c.ops[i] := (List.getElem?_eq_some_iff.1 hxu).2.symm
    generalize c.ops[i] = u at hxu hdu hRu
    have hRv := hRu
    obtain ⟨duv, rfl, -⟩ := id hRv
    have hgu := oprGrade (c := c) (i := (i : Int)) rfl hxu
    refine qv (fun w hS => (yLdBA h3 Try.isAgg26 Try.sizeOf26 (hS.at _) rfl rfl)) ?_
    refine qv (fun w hS => (yMove h10)) ?_
    refine qv (fun w hS => (yMove h2)) ?_
    refine qcall Try.call71 (.cons rfl (.cons rfl (.cons rfl .nil))) (fun w hS => (c_ron (h.ext hS.ext) ⟨by omega, by omega⟩)) ?_
    refine qv (fun w hS => (yNot rfl)) ?_
    refine qv (fun w hS => (yMove rfl)) ?_
    refine qg rfl rfl rfl (fun g w hS => (fa26_0 h3)) (fun v30 g30 => ?_)
    refine qg rfl rfl rfl (fun g w hS => (yLdB (g30.1 g) Try.isAgg22 (hS.at _) rfl)) (fun v31 g31 => ?_)
    refine qg rfl rfl rfl (fun g w hS => (yMove h10)) (fun v32 g32 => ?_)
    refine qg rfl rfl rfl (fun g w hS => (yIxa (g31.1 g) hau (g32.1 g) Try.runUnderlying22 Try.sizeOf42 (by omega) (by omega))) (fun v33 g33 => ?_)
    refine qg rfl rfl rfl (fun g w hS => (fa42_1 (g33.1 g))) (fun v34 g34 => ?_)
    refine qg rfl rfl rfl (fun g w hS => (yLd (g34.1 g) Try.isAgg3 ((hcsu.ext hS.ext).at (j := 1) rfl))) (fun v35 g35 => ?_)
    refine qg rfl rfl rfl (fun g w hS => (fa79_1 h9)) (fun v36 g36 => ?_)
    refine qg rfl rfl rfl (fun g w hS => (yLdB (g36.1 g) Try.isAgg3 (hS.at _) rfl)) (fun v37 g37 => ?_)
    refine qg rfl rfl rfl (fun g w hS => (yLss (g35.1 g) (g37.1 g))) (fun v38 g38 => ?_)
    refine qv (fun w hS => (yOr rfl rfl (fun hB => (g38.1 hB)))) ?_
    clear hS; refine qnil (fun w hS => ?_)
    show Code.wp _ _ _ _ _
    refine cond rfl (fun c39 => ?_) (fun c39 => ?_)
    ·
      have hfit : fitB c m i x.grade = false := fit_no hgu c39
      refine exit ?_
      show Code.wp _ _ _ _ _
      refine region ?_
      refine sv (yMove h10) ?_
      refine sv (yAdd rfl rfl ⟨by omega, by omega⟩) ?_
      refine sv (yAsg rfl) ?_
      refine nil ?_
      exact ⟨_, _, rfl, ⟨i + 1, h2, h3, h9, rfl, hS, (by omega), (by rw [prP_succ, hP, rowP, if_neg (fun hh => by rw [hh] at hfit; cases hfit)]; rfl), rfl⟩, by omega⟩
    ·
      have hfit : fitB c m i x.grade = true := fit_yes hgu c39
      refine skip ?_
      show Code.wp _ _ _ _ _
      refine seq ?_
      refine seq ?_
      refine region ?_
      refine sv (fa79_2 h9) ?_
      refine sv (yLdB rfl Try.isAgg3 (hS.at _) rfl) ?_
      refine sv (yEql rfl rfl) ?_
      refine nil ?_
      show Code.wp _ _ _ _ _
      refine cond rfl (fun c42 => ?_) (fun c42 => ?_)
      ·
        simp only [Bool.and_eq_true, Bool.or_eq_true, Bool.and_eq_false_iff, Bool.or_eq_false_iff, decide_eq_true_eq, decide_eq_false_iff_not, Bool.not_eq_true, Bool.not_eq_false, Bool.not_not, Bool.not_eq_eq_eq_not, Bool.not_true, Bool.not_false, Bool.false_eq_true, Bool.true_eq_false, ne_eq, Decidable.not_not, not_false_eq_true, not_true_eq_false] at c42
        refine seq ?_
        refine region ?_
        refine sv (yMove h10) ?_
        refine sv (yAsg rfl) ?_
        refine sv (yAsg rfl) ?_
        refine sv (yAsg rfl) ?_
        refine nil ?_
        show Code.wp _ _ _ _ _
        have hfin : ableR c kd m = ((i : Int), -1, true) := ableR_hit (by rw [hz]; have := pre_one (by omega) hfit c42; rwa [hP] at this)
        refine wp_ret (thenR (blockR (thenR (thenR (blockR (thenR ?_))))))
        exact retV (res3 rfl (eqI (by rw [hfin])) (eqI (by rw [hfin])) (eqB (by rw [hfin]))) hS.ext
      ·
        simp only [Bool.and_eq_true, Bool.or_eq_true, Bool.and_eq_false_iff, Bool.or_eq_false_iff, decide_eq_true_eq, decide_eq_false_iff_not, Bool.not_eq_true, Bool.not_eq_false, Bool.not_not, Bool.not_eq_eq_eq_not, Bool.not_true, Bool.not_false, Bool.false_eq_true, Bool.true_eq_false, ne_eq, Decidable.not_not, not_false_eq_true, not_true_eq_false] at c42
        refine skip ?_
        show Code.wp _ _ _ _ _
        refine seq ?_
        refine region ?_
        refine sv (yAsg rfl) ?_
        refine nil ?_
        show Code.wp _ _ _ _ _
        refine block ?_
        refine loop (fun f w zz => ∃ (k : Nat), f 2 = .int .i64 m ∧ f 3 = .pointer (some ⟨b3, 0, none⟩) ∧ f 9 = .pointer (some ⟨b9, 0, none⟩) ∧ f 10 = .int .i64 (i : Int) ∧ f 11 = .int .i64 (k : Int) ∧ StX [] w0 w [blk b9 [.string x.name, .int .i64 x.grade, .int .i64 x.second, .int .i64 x.within, .slice axk x.keys.length cxk, .bool x.split] 79, blk b3 [.slice a c.ops.length cap, kv, .slice an c.kinds.length cn] 26] ∧ (k ≤ c.ops.length) ∧ (inP c x m i k = []) ∧ zz = c.ops.length - k) _ ⟨_, rfl, 0, h2, h3, h9, h10, rfl, hS, (Nat.zero_le _), (rfl), rfl⟩ ?_
        clear hS
        rintro f w _ ⟨k, h2, h3, h9, h10, h11, hS, hk, hQ, rfl⟩
        refine seq ?_
        refine seq ?_
        refine region ?_
        refine sv (yMove h11) ?_
        refine sv (fa26_0 h3) ?_
        refine sv (yLdB rfl Try.isAgg22 (hS.at _) rfl) ?_
        refine sv (yLen rfl Try.underlying22) ?_
        refine sv (yLss rfl rfl) ?_
        refine nil ?_
        show Code.wp _ _ _ _ _
        refine cond rfl (fun c48 => ?_) (fun c48 => ?_)
        ·
          simp only [Bool.and_eq_true, Bool.or_eq_true, Bool.and_eq_false_iff, Bool.or_eq_false_iff, decide_eq_true_eq, decide_eq_false_iff_not, Bool.not_eq_true, Bool.not_eq_false, Bool.not_not, Bool.not_eq_eq_eq_not, Bool.not_true, Bool.not_false, Bool.false_eq_true, Bool.true_eq_false, ne_eq, Decidable.not_not, not_false_eq_true, not_true_eq_false] at c48
          refine skip ?_
          show Code.wp _ _ _ _ _
          refine seq ?_
          refine block ?_
          refine seq ?_
          refine region_draw mixed (by kernel_rfl) hS ?_
          obtain ⟨v, hxv, hdv⟩ := drop_of (l := c.ops) (k := k) (by omega)
          obtain ⟨bv, ov, csv, hav, hlenv, hcsv, hRv⟩ := hel (k) (by omega)
          obtain rfl : v = c.ops[k] := (List.getElem?_eq_some_iff.1 hxv).2.symm
          generalize c.ops[k] = v at hxv hdv hRv
          have hRw := hRv
          obtain ⟨dvv, rfl, -⟩ := id hRw
          have hgv := oprGrade (c := c) (i := (k : Int)) rfl hxv
          refine qv (fun w hS => (yMove h11)) ?_
          refine qv (fun w hS => (yMove h10)) ?_
          refine qv (fun w hS => (yNeq rfl rfl)) ?_
          refine qv (fun w hS => (yMove rfl)) ?_
          refine qg rfl rfl rfl (fun g w hS => (yLdBA h3 Try.isAgg26 Try.sizeOf26 (hS.at _) rfl rfl)) (fun v55 g55 => ?_)
          refine qg rfl rfl rfl (fun g w hS => (yMove h11)) (fun v56 g56 => ?_)
          refine qg rfl rfl rfl (fun g w hS => (yMove h2)) (fun v57 g57 => ?_)
          refine qgc rfl rfl rfl Try.call71 (fun g => (.cons (g55.1 g) (.cons (g56.1 g) (.cons (g57.1 g) .nil)))) (fun g w hS => (c_ron (h.ext hS.ext) ⟨by omega, by omega⟩)) (fun v58 g58 => ?_)
          refine qv (fun w hS => (yAnd rfl (fun hB => (g58.1 hB)) rfl)) ?_
          refine qv (fun w hS => (yMove rfl)) ?_
          refine qg rfl rfl rfl (fun g w hS => (fa26_0 h3)) (fun v61 g61 => ?_)
          refine qg rfl rfl rfl (fun g w hS => (yLdB (g61.1 g) Try.isAgg22 (hS.at _) rfl)) (fun v62 g62 => ?_)
          refine qg rfl rfl rfl (fun g w hS => (yMove h11)) (fun v63 g63 => ?_)
          refine qg rfl rfl rfl (fun g w hS => (yIxa (g62.1 g) hav (g63.1 g) Try.runUnderlying22 Try.sizeOf42 (by omega) (by omega))) (fun v64 g64 => ?_)
          refine qg rfl rfl rfl (fun g w hS => (fa42_1 (g64.1 g))) (fun v65 g65 => ?_)
          refine qg rfl rfl rfl (fun g w hS => (yLd (g65.1 g) Try.isAgg3 ((hcsv.ext hS.ext).at (j := 1) rfl))) (fun v66 g66 => ?_)
          refine qg rfl rfl rfl (fun g w hS => (fa79_2 h9)) (fun v67 g67 => ?_)
          refine qg rfl rfl rfl (fun g w hS => (yLdB (g67.1 g) Try.isAgg3 (hS.at _) rfl)) (fun v68 g68 => ?_)
          refine qg rfl rfl rfl (fun g w hS => (yGeq (g66.1 g) (g68.1 g))) (fun v69 g69 => ?_)
          refine qv (fun w hS => (yAnd rfl (fun hB => (g69.1 hB)) rfl)) ?_
          clear hS; refine qnil (fun w hS => ?_)
          show Code.wp _ _ _ _ _
          refine cond rfl (fun c70 => ?_) (fun c70 => ?_)
          ·
            have hg2 : (decide ((k : Int) ≠ i) && fitB c m k x.second) = true := (fit_second hgv).symm.trans c70
            refine seq ?_
            refine region ?_
            refine sv (yMove h10) ?_
            refine sv (yMove h11) ?_
            refine sv (yAsg rfl) ?_
            refine sv (yAsg rfl) ?_
            refine sv (yAsg rfl) ?_
            refine nil ?_
            show Code.wp _ _ _ _ _
            have hfin : ableR c kd m = ((i : Int), (k : Int), true) := ableR_hit (by rw [hz]; have := pre_two (by omega) (by omega) hfit c42 hg2; rwa [hP, hQ] at this)
            refine wp_ret (blockR (thenR (thenR (blockR (blockR (thenR (thenR (blockR (thenR ?_)))))))))
            exact retV (res3 rfl (eqI (by rw [hfin])) (eqI (by rw [hfin])) (eqB (by rw [hfin]))) hS.ext
          ·
            have hg2 : (decide ((k : Int) ≠ i) && fitB c m k x.second) = false := (fit_second hgv).symm.trans c70
            refine skip ?_
            show Code.wp _ _ _ _ _
            refine region ?_
            refine sv (yMove h11) ?_
            refine sv (yAdd rfl rfl ⟨by omega, by omega⟩) ?_
            refine sv (yAsg rfl) ?_
            refine nil ?_
            exact ⟨_, _, rfl, ⟨k + 1, h2, h3, h9, h10, rfl, hS, (by omega), (by rw [inP_out hg2, hQ]), rfl⟩, by omega⟩
        ·
          simp only [Bool.and_eq_true, Bool.or_eq_true, Bool.and_eq_false_iff, Bool.or_eq_false_iff, decide_eq_true_eq, decide_eq_false_iff_not, Bool.not_eq_true, Bool.not_eq_false, Bool.not_not, Bool.not_eq_eq_eq_not, Bool.not_true, Bool.not_false, Bool.false_eq_true, Bool.true_eq_false, ne_eq, Decidable.not_not, not_false_eq_true, not_true_eq_false] at c48
          refine exit ?_
          show Code.wp _ _ _ _ _
          refine region ?_
          refine sv (yMove h10) ?_
          refine sv (yAdd rfl rfl ⟨by omega, by omega⟩) ?_
          refine sv (yAsg rfl) ?_
          refine nil ?_
          exact ⟨_, _, rfl, ⟨i + 1, h2, h3, h9, rfl, hS, (by omega), (by rw [prP_succ, hP, rowP, if_pos hfit, if_neg c42, show c.ops.length = k by omega]; exact hQ), rfl⟩, by omega⟩
  ·
    simp only [Bool.and_eq_true, Bool.or_eq_true, Bool.and_eq_false_iff, Bool.or_eq_false_iff, decide_eq_true_eq, decide_eq_false_iff_not, Bool.not_eq_true, Bool.not_eq_false, Bool.not_not, Bool.not_eq_eq_eq_not, Bool.not_true, Bool.not_false, Bool.false_eq_true, Bool.true_eq_false, ne_eq, Decidable.not_not, not_false_eq_true, not_true_eq_false] at c21
    refine exit ?_
    show Code.wp _ _ _ _ _
    refine seq ?_
    refine region ?_
    refine sv (yAsg rfl) ?_
    refine sv (yAsg rfl) ?_
    refine sv (yAsg rfl) ?_
    refine nil ?_
    show Code.wp _ _ _ _ _
    have hfin : ableR c kd m = (0, 0, false) := ableR_nil (by rw [hz]; unfold pairsL; rw [show c.ops.length = i by omega]; exact hP)
    refine wp_ret ?_
    exact retV (res3 rfl (eqI (by rw [hfin])) (eqI (by rw [hfin])) (eqB (by rw [hfin]))) hS.ext
set_option maxHeartbeats 2000000 in
/-- barrage/barrageref10.Able -/
theorem c_rAble {c : Crew} {cs : List Value} {kd m : Int} {w0 : World} (h : RCrew w0 cs c) : CV Try.prog 35 #[.agg cs.toArray, .int .i64 kd, .int .i64 m] w0 (.tuple #[.int .i64 (ableF c kd m).1, .int .i64 (ableF c kd m).2.1, .int .i64 (ableF c kd m).2.2]) := by
  obtain ⟨ov, kv, nv, rfl, hso, hsk, hsn, hrm⟩ := id h
  obtain ⟨a, cap, rfl, hcap, hmx, hel⟩ := id hso
  obtain ⟨an, cn, rfl, hncap, hnmx, -⟩ := id hsn
  refine enter Try.func35 rfl Try.ntmps35 rfl ?_
  have hS := St.start w0
  refine seq ?_
  refine region ?_
  refine sbox hS rfl rfl ?_; clear hS; intro b3 w hS
  refine sv (yAsg rfl) ?_
  refine sv (yAsg rfl) ?_
  refine sv (yAsg rfl) ?_
  refine nil ?_
  show Code.wp _ _ _ _ _
  refine seq ?_
  refine region ?_
  refine sv (yLdBA rfl Try.isAgg26 Try.sizeOf26 (hS.at _) rfl rfl) ?_
  refine scall Try.call32 (.cons rfl .nil) (c_rCheck (h.ext hS.ext)) ?_
  rintro _ w ⟨rfl, hE⟩; replace hS := hS.step hE; clear hE
  refine sv (yMove rfl) ?_
  refine sv (yExt rfl rfl) ?_
  refine sv (yExt rfl rfl) ?_
  refine sv (yExt rfl rfl) ?_
  refine sv (yAsg rfl) ?_
  refine sv (yAsg rfl) ?_
  refine sv (yAsg rfl) ?_
  refine nil ?_
  show Code.wp _ _ _ _ _
  refine seqJ (n := 54) (fun f w => f 1 = .int .i64 kd ∧ f 2 = .int .i64 m ∧ f 3 = .pointer (some ⟨b3, 0, none⟩) ∧ f 11 = .int .i64 (ableE1 c kd) ∧ StX [] w0 w [blk b3 [.slice a c.ops.length cap, kv, .slice an c.kinds.length cn] 26] ∧ True) ?_ ?_
  ·
    refine seq ?_
    refine region ?_
    refine sv (yMove rfl) ?_
    refine sv (yEql rfl rfl) ?_
    refine sv (yMove rfl) ?_
    refine sg rfl rfl rfl (fun g => (yMove rfl)) (fun v24 g24 => ?_)
    refine sg rfl rfl rfl (fun g => (fa26_2 rfl)) (fun v25 g25 => ?_)
    refine sg rfl rfl rfl (fun g => (yLdB (g25.1 g) Try.isAgg24 (hS.at _) rfl)) (fun v26 g26 => ?_)
    refine sg rfl rfl rfl (fun g => (yLen (g26.1 g) Try.underlying24)) (fun v27 g27 => ?_)
    refine sg rfl rfl rfl (fun g => (ySub (g27.1 g) rfl ⟨by omega, by omega⟩)) (fun v28 g28 => ?_)
    refine sgc hS rfl rfl rfl Try.call54 (fun g => (.cons (g24.1 g) (.cons rfl (.cons (g28.1 g) .nil)))) (fun g => c_in) ?_; clear hS; intro v29 w hS g29
    refine sg rfl rfl rfl (fun g => (yNot (g29.1 g))) (fun v30 g30 => ?_)
    refine sv (yAnd rfl (fun hB => (g30.1 hB)) rfl) ?_
    refine nil ?_
    show Code.wp _ _ _ _ _
    refine cond rfl (fun c31 => ?_) (fun c31 => ?_)
    ·
      refine region ?_
      refine sv (yAsg rfl) ?_
      refine nil ?_
      exact ⟨_, rfl, rfl, rfl, rfl, rfl.trans (congrArg (Value.int .i64) (ableE1_yes c31).symm), hS, trivial⟩
    ·
      refine skip ?_
      exact ⟨_, rfl, rfl, rfl, rfl, rfl.trans (congrArg (Value.int .i64) (ableE1_no c31).symm), hS, trivial⟩
  ·
    clear hS; rintro f w ⟨h1, h2, h3, h11, hS, -⟩
    refine seqJ (n := 54) (fun f w => f 1 = .int .i64 kd ∧ f 2 = .int .i64 m ∧ f 3 = .pointer (some ⟨b3, 0, none⟩) ∧ f 11 = .int .i64 (ableE c kd m) ∧ StX [] w0 w [blk b3 [.slice a c.ops.length cap, kv, .slice an c.kinds.length cn] 26] ∧ True) ?_ ?_
    ·
      refine seq ?_
      refine region ?_
      refine sv (yMove h11) ?_
      refine sv (yEql rfl rfl) ?_
      refine sv (yMove rfl) ?_
      refine sg rfl rfl rfl (fun g => (yMove h2)) (fun v35 g35 => ?_)
      refine sgc hS rfl rfl rfl Try.call46 (fun g => (.cons (g35.1 g) .nil)) (fun g => c_rminute) ?_; clear hS; intro v36 w hS g36
      refine sg rfl rfl rfl (fun g => (yNot (g36.1 g))) (fun v37 g37 => ?_)
      refine sv (yAnd rfl (fun hB => (g37.1 hB)) rfl) ?_
      refine nil ?_
      show Code.wp _ _ _ _ _
      refine cond rfl (fun c38 => ?_) (fun c38 => ?_)
      ·
        refine region ?_
        refine sv (yAsg rfl) ?_
        refine nil ?_
        exact ⟨_, rfl, h1, h2, h3, rfl.trans (congrArg (Value.int .i64) (ableE2_yes c38).symm), hS, trivial⟩
      ·
        refine skip ?_
        exact ⟨_, rfl, h1, h2, h3, h11.trans (congrArg (Value.int .i64) (ableE2_no c38).symm), hS, trivial⟩
    ·
      clear hS; rintro f w ⟨h1, h2, h3, h11, hS, -⟩
      refine seq ?_
      refine seq ?_
      refine region ?_
      refine sv (yMove h11) ?_
      refine sv (yNeq rfl rfl) ?_
      refine nil ?_
      show Code.wp _ _ _ _ _
      refine cond rfl (fun c40 => ?_) (fun c40 => ?_)
      ·
        refine seq ?_
        refine region ?_
        refine sv (yMove h11) ?_
        refine sv (yAsg rfl) ?_
        refine sv (yAsg rfl) ?_
        refine sv (yAsg rfl) ?_
        refine nil ?_
        show Code.wp _ _ _ _ _
        have hfin : ableF c kd m = (0, 0, ableE c kd m) := if_pos (of_decide_eq_true c40)
        refine wp_ret (thenR ?_)
        exact retV (res3 rfl (eqI (by rw [hfin])) (eqI (by rw [hfin])) (eqI (by rw [hfin]))) hS.ext
      ·
        refine skip ?_
        show Code.wp _ _ _ _ _
        refine seq ?_
        refine region ?_
        refine sv (yLdBA h3 Try.isAgg26 Try.sizeOf26 (hS.at _) rfl rfl) ?_
        refine sv (yMove h1) ?_
        refine sv (yMove h2) ?_
        have hE0 : ableE c kd m = 0 := by simpa using c40
        obtain ⟨hr1, -⟩ := ableE_in hE0
        refine scall Try.call72 (.cons rfl (.cons rfl (.cons rfl .nil))) (c_rable (h.ext hS.ext) hr1) ?_
        rintro _ w ⟨rfl, hE⟩; replace hS := hS.step hE; clear hE
        refine sv (yMove rfl) ?_
        refine sv (yExt rfl rfl) ?_
        refine sv (yExt rfl rfl) ?_
        refine sv (yExt rfl rfl) ?_
        refine sv (yAsg rfl) ?_
        refine sv (yAsg rfl) ?_
        refine sv (yAsg rfl) ?_
        refine nil ?_
        show Code.wp _ _ _ _ _
        refine seq ?_
        refine seq ?_
        refine region ?_
        refine sv (yMove rfl) ?_
        refine sv (yNot rfl) ?_
        refine nil ?_
        show Code.wp _ _ _ _ _
        refine cond rfl (fun c51 => ?_) (fun c51 => ?_)
        ·
          refine seq ?_
          refine region ?_
          refine sv (yAsg rfl) ?_
          refine sv (yAsg rfl) ?_
          refine sv (yAsg rfl) ?_
          refine nil ?_
          show Code.wp _ _ _ _ _
          have hfin : ableF c kd m = (0, 0, 9) := ableR_no hE0 (by simpa using c51)
          refine wp_ret (thenR ?_)
          exact retV (res3 rfl (eqI (by rw [hfin])) (eqI (by rw [hfin])) (eqI (by rw [hfin]))) hS.ext
        ·
          refine skip ?_
          show Code.wp _ _ _ _ _
          refine seq ?_
          refine region ?_
          refine sv (yMove rfl) ?_
          refine sv (yMove rfl) ?_
          refine sv (yAsg rfl) ?_
          refine sv (yAsg rfl) ?_
          refine sv (yAsg rfl) ?_
          refine nil ?_
          show Code.wp _ _ _ _ _
          have hfin := ableR_yes hE0 (show (ableR c kd m).2.2 = true by simpa using c51)
          refine wp_ret ?_
          exact retV (res3 rfl (eqI (by rw [hfin])) (eqI (by rw [hfin])) (eqI (by rw [hfin]))) hS.ext
end Go.Proofs.Ytghgnofilbnbaaa
