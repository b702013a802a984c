/- Several gauges: plain laws; the examples' table and gauge. -/
import Derived.Test.YtpgmehignepidaaP6
import Derived.Test.YtpgmehignepidaaLib10
set_option linter.all false
namespace Bx
open Go Go.RowKit
def gErrs : List Gauge → Int
  | [] => 0
  | g :: gs => if (checkG g).2.2 ≠ 0 then (checkG g).2.2 else gErrs gs
def namesG (l : List Gauge) : List ByteArray := l.map (·.name)
/-- The names that have been seen. -/
def uniq (l : List ByteArray) : List ByteArray := l.foldl (fun s n => if memB n s = true then s else s ++ [n]) []
theorem uniq_snoc (l : List ByteArray) (n : ByteArray) : uniq (l ++ [n]) = if memB n (uniq l) = true then uniq l else uniq l ++ [n] := by unfold uniq; rw [List.foldl_append]; rfl
theorem setM_uniq (l : List ByteArray) (n : ByteArray) : setM (seenM (uniq l)) n (.bool true) = seenM (uniq (l ++ [n])) := by
  rw [uniq_snoc]
  split
  · rename_i h
    rw [memB_iff] at h
    generalize uniq l = s at h
    unfold seenM
    induction s with
    | nil => cases h
    | cons x s ih =>
      simp only [List.map_cons, setM]
      by_cases e : n = x
      · rw [if_pos e]
      · rw [if_neg e, ih ((List.mem_cons.1 h).resolve_left e)]
  · rename_i h
    exact setM_seen _ _ (fun h' => h (memB_iff.2 h'))
theorem snocInd {p : List ByteArray → Prop} (h0 : p []) (h1 : ∀ l n, p l → p (l ++ [n])) (l : List ByteArray) : p l := by
  rw [← List.reverse_reverse l]
  induction l.reverse with
  | nil => exact h0
  | cons x xs ih => rw [List.reverse_cons]; exact h1 _ _ ih
theorem mem_uniq (l : List ByteArray) : ∀ x, x ∈ uniq l ↔ x ∈ l := by
  induction l using snocInd with
  | h0 => simp [uniq]
  | h1 l n ih =>
    intro x
    rw [uniq_snoc]
    split
    · rename_i h
      rw [memB_iff, ih] at h
      rw [ih, List.mem_append]
      constructor
      · exact .inl
      · rintro (h' | h')
        · exact h'
        · rw [List.mem_singleton.1 h']; exact h
    · rw [List.mem_append, List.mem_append, ih]
theorem uniq_le (l : List ByteArray) : (uniq l).length ≤ l.length ∧ ((uniq l).length = l.length ↔ l.Nodup) := by
  induction l using snocInd with
  | h0 => simp [uniq]
  | h1 l n ih =>
    rw [uniq_snoc, List.nodup_append]
    obtain ⟨h1, h2⟩ := ih
    split
    · rename_i h
      rw [memB_iff, mem_uniq] at h
      refine ⟨by simp; omega, ?_⟩
      constructor
      · intro e; simp at e; omega
      · rintro ⟨_, _, h3⟩; exact absurd rfl (h3 n h n (by simp))
    · rename_i h
      rw [memB_iff, mem_uniq] at h
      refine ⟨by simp; omega, ?_⟩
      rw [List.length_append, List.length_append, Nat.add_right_cancel_iff, h2]
      simp only [List.mem_singleton, List.nodup_cons, List.not_mem_nil, not_false_eq_true, List.nodup_nil, and_self, true_and]
      constructor
      · intro e; exact ⟨e, fun a ha b hb => by rw [hb]; intro e; exact h (e ▸ ha)⟩
      · intro e; exact e.1
def gaugesE (l : List Gauge) (t now : Int) : Int := if (8 : Int) < l.length then 3 else if gErrs l ≠ 0 then gErrs l else if ¬ (namesG l).Nodup then 5 else ticksE [t, now]
theorem gErrs_take {l : List Gauge} {k : Nat} {g : Gauge} (hd : l.drop k = g :: l.drop (k + 1)) (hI : gErrs l = gErrs (l.drop k)) (h : (checkG g).2.2 = 0) : gErrs l = gErrs (l.drop (k + 1)) := by rw [hI, hd, gErrs, if_neg (fun h' => h' h)]
theorem gErrs_bad {l : List Gauge} {k : Nat} {g : Gauge} (hd : l.drop k = g :: l.drop (k + 1)) (hI : gErrs l = gErrs (l.drop k)) (h : (checkG g).2.2 ≠ 0) : gErrs l = (checkG g).2.2 := by rw [hI, hd, gErrs, if_pos h]
theorem names_take {l : List Gauge} {k : Nat} {g : Gauge} (h : l[k]? = some g) : namesG (l.take (k + 1)) = namesG (l.take k) ++ [g.name] := by unfold namesG; rw [take_snoc h, List.map_append]; rfl
theorem names_len (l : List Gauge) : (namesG l).length = l.length := List.length_map _
theorem nodup_take {l : List Gauge} {k : Nat} {g : Gauge} (h : l[k]? = some g) (hn : (namesG (l.take k)).Nodup) (hm : ∀ i x, i < k → l[i]? = some x → g.name ≠ x.name) : (namesG (l.take (k + 1))).Nodup := by
  rw [names_take h, List.nodup_append]
  refine ⟨hn, by simp, fun a ha b hb => ?_⟩
  rw [List.mem_singleton.1 hb]
  obtain ⟨x, hx, rfl⟩ := List.mem_map.1 ha
  obtain ⟨i, hi, e⟩ := List.mem_take_iff_getElem.1 hx
  exact fun e' => hm i x (by omega) (by rw [← e]; simp) e'.symm
theorem not_nodup {l : List Gauge} {i k : Nat} {x g : Gauge} (hi : l[i]? = some x) (hk : l[k]? = some g) (h : i < k) (e : g.name = x.name) : ¬ (namesG l).Nodup := by
  intro hn
  obtain ⟨h1, e1⟩ := List.getElem?_eq_some_iff.1 hi
  obtain ⟨h2, e2⟩ := List.getElem?_eq_some_iff.1 hk
  have := List.pairwise_iff_getElem.1 hn i k (by simp [namesG, h1]) (by simp [namesG, h2]) h
  simp only [namesG, List.getElem_map, e1, e2] at this
  exact this e.symm
/-! ### examples -/
def exT : Table := ⟨100, [⟨⟨#[109, 111, 111, 110]⟩, [0, 1000, 0, -1000], 0, 2, 37, 10⟩]⟩
def exG : Gauge := ⟨⟨#[112, 105, 101, 114]⟩, 20, 50, [⟨0, ⟨0, 0⟩⟩, ⟨100, ⟨30, 40⟩⟩], [⟨90, 500⟩, ⟨110, 640⟩]⟩
end Bx
namespace Bx
open Go Go.RowKit
def zG : Gauge := ⟨⟨#[]⟩, 0, 0, [], []⟩
theorem rows_rep {α : Type} {w : World} {k : Nat} {R : World → List Value → α → Prop} {cs : List Value} {x : α} (hl : cs.length = k) (h : R w cs x) : ∀ n, Rows w k R (List.replicate n cs) (List.replicate n x)
  | 0 => trivial
  | n + 1 => ⟨hl, h, rows_rep hl h n⟩
theorem rg_zero {w : World} : RGauge w [.string ⟨#[]⟩, .int .i64 0, .int .i64 0, .slice none 0 0, .slice none 0 0] zG := ⟨_, _, rfl, by decide, by decide, by decide, Sl.nil, Sl.nil⟩
theorem gaugesE_long {l : List Gauge} {t now : Int} (h : (8 : Int) < l.length) : gaugesE l t now = 3 := by unfold gaugesE; rw [if_pos h]
end Bx
