/- What a gauge says, by more or fewer readings. -/
import Derived.Test.YtpgmehignepidaaP7
import Derived.Test.YtpgmehignepidaaLib11
set_option linter.all false
namespace Bx
open Go Go.RowKit
def RI3 (_ : World) (cs : List Value) (x : Int × Int × Int) : Prop := cs = [.int .i64 x.1, .int .i64 x.2.1, .int .i64 x.2.2] ∧ I64 x.1 ∧ I64 x.2.1 ∧ I64 x.2.2
def RI2 (_ : World) (cs : List Value) (x : Int × Int) : Prop := cs = [.int .i64 x.1, .int .i64 x.2] ∧ I64 x.1 ∧ I64 x.2
def RU3 (_ : World) (cs : List Value) (x : Int × Int × Int) : Prop := cs = [.int .u8 x.1, .int .u8 x.2.1, .int .u8 x.2.2] ∧ Bd x.1 0 255 ∧ Bd x.2.1 0 255 ∧ Bd x.2.2 0 255
def RU2 (_ : World) (cs : List Value) (x : Int × Int) : Prop := cs = [.int .u8 x.1, .int .u8 x.2] ∧ Bd x.1 0 255 ∧ Bd x.2 0 255
theorem fold_lo {α : Type} {f : α → Span} {x : Int} : ∀ (l : List α) (s : Span), (l.foldl (fun s r => cutS s (f r)) s).lo ≤ x ↔ s.lo ≤ x ∧ ∀ r ∈ l, (f r).lo ≤ x
  | [], s => by simp
  | a :: l, s => by
    rw [List.foldl_cons, fold_lo l]
    simp only [cutS, List.forall_mem_cons]
    constructor
    · rintro ⟨h1, h2⟩; exact ⟨by omega, by omega, h2⟩
    · rintro ⟨h1, h2, h3⟩; exact ⟨by omega, h3⟩
theorem fold_hi {α : Type} {f : α → Span} {x : Int} : ∀ (l : List α) (s : Span), x ≤ (l.foldl (fun s r => cutS s (f r)) s).hi ↔ x ≤ s.hi ∧ ∀ r ∈ l, x ≤ (f r).hi
  | [], s => by simp
  | a :: l, s => by
    rw [List.foldl_cons, fold_hi l]
    simp only [cutS, List.forall_mem_cons]
    constructor
    · rintro ⟨h1, h2⟩; exact ⟨by omega, by omega, h2⟩
    · rintro ⟨h1, h2, h3⟩; exact ⟨by omega, h3⟩
theorem cuts_lo {g : Gauge} {t x : Int} {l : List Reading} : (cuts g t l).lo ≤ x ↔ -20000 ≤ x ∧ ∀ r ∈ l, (readSpan g t r).lo ≤ x := fold_lo l _
theorem cuts_hi {g : Gauge} {t x : Int} {l : List Reading} : x ≤ (cuts g t l).hi ↔ x ≤ 20000 ∧ ∀ r ∈ l, x ≤ (readSpan g t r).hi := fold_hi l _
/-- A is in B. -/
def Within (a b : Span) : Prop := b.lo ≤ a.lo ∧ a.hi ≤ b.hi
theorem cuts_within {g : Gauge} {t : Int} {l l' : List Reading} (h : ∀ r ∈ l, r ∈ l') : Within (cuts g t l') (cuts g t l) := by
  have h1 := (cuts_lo (g := g) (t := t) (l := l')).1 (Int.le_refl _)
  have h2 := (cuts_hi (g := g) (t := t) (l := l')).1 (Int.le_refl _)
  exact ⟨cuts_lo.2 ⟨h1.1, fun r hr => h1.2 r (h r hr)⟩, cuts_hi.2 ⟨h2.1, fun r hr => h2.2 r (h r hr)⟩⟩
theorem cuts_level {g : Gauge} {t : Int} {l : List Reading} : -20000 ≤ (cuts g t l).lo ∧ (cuts g t l).hi ≤ 20000 :=
  ⟨((cuts_lo (g := g) (t := t) (l := l)).1 (Int.le_refl _)).1, ((cuts_hi (g := g) (t := t) (l := l)).1 (Int.le_refl _)).1⟩
theorem mem_known {rs : List Reading} {now : Int} {r : Reading} : r ∈ known rs now ↔ r ∈ rs ∧ r.tick ≤ now := by simp [known]
theorem known_more {rs : List Reading} {a b : Int} (h : a ≤ b) : ∀ r ∈ known rs a, r ∈ known rs b := fun r hr => by
  rw [mem_known] at hr ⊢
  exact ⟨hr.1, by omega⟩
theorem saysF_zero {g : Gauge} {t now : Int} (h : (saysF g t now).2 = 0) : saysE g t now = 0 ∧ known g.readings now ≠ [] ∧ (cuts g t (known g.readings now)).lo ≤ (cuts g t (known g.readings now)).hi ∧ (saysF g t now).1 = cuts g t (known g.readings now) := by
  unfold saysF at h ⊢
  split at h
  · rename_i h1; exact absurd h h1
  rename_i h1
  rw [if_neg h1]
  unfold saysG saysL at h ⊢
  split at h
  · exact absurd h (by decide)
  rename_i h2
  split at h
  · exact absurd h (by decide)
  rename_i h3
  rw [if_neg h2, if_neg h3]
  exact ⟨Decidable.not_not.1 h1, h2, by omega, rfl⟩
theorem checkR_err : ∀ (rs : List Reading) (b : Int) (i : Nat), (checkR rs b i).2.2 = 0 ∨ (checkR rs b i).2.2 = 7
  | [], _, _ => .inl rfl
  | r :: rs, b, i => by
    unfold checkR
    split
    · exact .inr rfl
    · exact checkR_err rs _ _
theorem checkD_err (rest : Int × Int × Int) : ∀ (ds : List Datum) (b : Int) (i : Nat), (checkD rest ds b i).2.2 = rest.2.2 ∨ (checkD rest ds b i).2.2 = 7
  | [], _, _ => .inl rfl
  | d :: ds, b, i => by
    unfold checkD
    split
    · exact .inr rfl
    · exact checkD_err rest ds _ _
theorem checkG_err (g : Gauge) : (checkG g).2.2 = 0 ∨ (checkG g).2.2 = 3 ∨ (checkG g).2.2 = 6 ∨ (checkG g).2.2 = 7 := by
  unfold checkG
  split
  · show gErr g = 0 ∨ _ ∨ _ ∨ _
    unfold gErr
    split
    · simp
    · split <;> simp
  split
  · simp
  rcases checkD_err (checkRs g) g.datums (-1) 0 with h | h
  · rw [h]
    unfold checkRs
    split
    · simp
    · rcases checkR_err g.readings (-1) 0 with h | h <;> rw [h] <;> simp
  · rw [h]; simp
theorem ticksE_err (l : List Int) : ticksE l = 0 ∨ ticksE l = 7 := by unfold ticksE; split <;> simp
theorem saysE_err (g : Gauge) (t now : Int) : saysE g t now = 0 ∨ saysE g t now = 3 ∨ saysE g t now = 6 ∨ saysE g t now = 7 := by
  unfold saysE
  split
  · rcases ticksE_err [t, now] with h | h <;> simp [h]
  · exact checkG_err g
theorem saysG_err (g : Gauge) (t now : Int) : (saysG g t now).2 = 0 ∨ (saysG g t now).2 = 4 ∨ (saysG g t now).2 = 9 := by
  unfold saysG saysL
  split
  · simp
  · split <;> simp
theorem saysF_down {g : Gauge} {t now : Int} (h : (saysF g t now).2 = 9) : saysE g t now = 0 ∧ known g.readings now ≠ [] ∧ (cuts g t (known g.readings now)).hi < (cuts g t (known g.readings now)).lo := by
  unfold saysF at h
  split at h
  · have := saysE_err g t now
    omega
  rename_i h1
  refine ⟨Decidable.not_not.1 h1, ?_⟩
  unfold saysG saysL at h
  split at h
  · exact absurd h (by decide)
  rename_i h2
  split at h
  · rename_i h3; exact ⟨h2, h3⟩
  · exact absurd h (show ¬ (0 : Int) = 9 by decide)
theorem says_more {g : Gauge} {t a b : Int} (hab : a ≤ b) (ha : (saysF g t a).2 = 0) (hb : (saysF g t b).2 = 0) :
    Within (saysF g t b).1 (saysF g t a).1 ∧ (saysF g t b).1.lo ≤ (saysF g t b).1.hi ∧ -20000 ≤ (saysF g t a).1.lo ∧ (saysF g t a).1.hi ≤ 20000 := by
  obtain ⟨_, _, _, ea⟩ := saysF_zero ha
  obtain ⟨_, _, h, eb⟩ := saysF_zero hb
  rw [ea, eb]
  exact ⟨cuts_within (known_more hab), h, cuts_level⟩
theorem says_down {g : Gauge} {t a b : Int} (hab : a ≤ b) (ha : (saysF g t a).2 = 9) : (saysF g t b).2 ≠ 0 := by
  intro hb
  obtain ⟨_, _, h1⟩ := saysF_down ha
  obtain ⟨_, _, h2, _⟩ := saysF_zero hb
  have := cuts_within (g := g) (t := t) (known_more (rs := g.readings) hab)
  unfold Within at this
  omega
def withinB (a b : Span) : Bool := decide (b.lo ≤ a.lo) && decide (a.hi ≤ b.hi)
theorem withinB_iff {a b : Span} : withinB a b = true ↔ Within a b := by simp [withinB, Within]
def hasB (s : Span) (n : Int) : Bool := decide (s.lo ≤ n) && decide (n ≤ s.hi)
theorem hasB_iff {s : Span} {n : Int} : hasB s n = true ↔ s.lo ≤ n ∧ n ≤ s.hi := by simp [hasB]
end Bx
namespace Bx
open Go Go.RowKit
structure Truth where
  start : Int
  level : Int
  moves : List Int
  gaps : List Int
  shifts : List Int
  errs : List Int
def RTruth (w : World) (cs : List Value) (x : Truth) : Prop := ∃ mv gv sv ev, cs = [.int .i64 x.start, .int .i64 x.level, mv, gv, sv, ev] ∧ I64 x.start ∧ I64 x.level ∧ Sl w 1 RI8 mv x.moves ∧ Sl w 1 RU8 gv x.gaps ∧ Sl w 1 RU8 sv x.shifts ∧ Sl w 1 RI8 ev x.errs
theorem RTruth.ext {w w' : World} {cs : List Value} {x : Truth} (h : RTruth w cs x) (e : Ext w w') : RTruth w' cs x := by
  obtain ⟨mv, gv, sv, ev, h1, h2, h3, h4, h5, h6, h7⟩ := h
  exact ⟨mv, gv, sv, ev, h1, h2, h3, h4.ext RI8.stays e, h5.ext RU8.stays e, h6.ext RU8.stays e, h7.ext RI8.stays e⟩
structure At where
  wrong : Int
  tick : Int
  now : Int
def RAt (_ : World) (cs : List Value) (x : At) : Prop := cs = [.int .i64 x.wrong, .int .i64 x.tick, .int .i64 x.now] ∧ I64 x.wrong ∧ I64 x.tick ∧ I64 x.now
structure Two where
  q : At
  a : Int
  b : Int
def RTwo (_ : World) (cs : List Value) (x : Two) : Prop := cs = [.int .i64 x.q.wrong, .int .i64 x.q.tick, .int .i64 x.q.now, .int .u8 x.a, .int .u8 x.b] ∧ I64 x.q.wrong ∧ I64 x.q.tick ∧ I64 x.q.now ∧ Bd x.a 0 255 ∧ Bd x.b 0 255
end Bx
