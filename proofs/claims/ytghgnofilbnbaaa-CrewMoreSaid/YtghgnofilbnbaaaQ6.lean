/- Merged texts, part 6. -/
import Derived.Test.YtghgnofilbnbaaaQ5
import Derived.Test.YtghgnofilbnbaaaProg
set_option linter.all false
/- part RdF -/
namespace Go.Proofs.Ytghgnofilbnbaaa
open Go Bx
section
variable {H : Type} {enc : TypeId × Value → H} {w : World} {base : Nat} {spare : Nat → Bool} {held : Bool} {fuel : Nat} {cs : List Value} {x : DataW H × List MemPlace}
theorem rdF26 (h : DataW.trod enc Try.prog w base spare held fuel 26 cs = some x) (hW : WOk Try.prog 26 x.1) : ∃ n c0 c1 c2, cs = [c0, c1, c2] ∧ (∃ y, DataW.trod enc Try.prog w base spare held n 22 [c0] = some y ∧ WOk Try.prog 22 y.1) ∧ (∃ y, DataW.trod enc Try.prog w base spare held n 23 [c1] = some y ∧ WOk Try.prog 23 y.1) ∧ (∃ y, DataW.trod enc Try.prog w base spare held n 24 [c2] = some y ∧ WOk Try.prog 24 y.1) := by
  have z22 : Try.prog.cellsOf 22 = 1 := by kernel_rfl
  have z23 : Try.prog.cellsOf 23 = 1 := by kernel_rfl
  have z24 : Try.prog.cellsOf 24 = 1 := by kernel_rfl
  obtain ⟨hl, n, hf⟩ := rdw_fields Try.underlying26 h hW
  have hz : Try.prog.cellsOf 26 = 3 := by kernel_rfl
  rw [hz] at hl
  obtain ⟨c0, c1, c2, rfl⟩ := three_of hl
  have f0 : ∃ y, DataW.trod enc Try.prog w base spare held n 22 ((List.drop 0 [c0, c1, c2]).take (Try.prog.cellsOf 22)) = some y ∧ WOk Try.prog 22 y.1 := hf 0 _ rfl
  rw [z22] at f0
  have f1 : ∃ y, DataW.trod enc Try.prog w base spare held n 23 ((List.drop 1 [c0, c1, c2]).take (Try.prog.cellsOf 23)) = some y ∧ WOk Try.prog 23 y.1 := hf 1 _ rfl
  rw [z23] at f1
  have f2 : ∃ y, DataW.trod enc Try.prog w base spare held n 24 ((List.drop 2 [c0, c1, c2]).take (Try.prog.cellsOf 24)) = some y ∧ WOk Try.prog 24 y.1 := hf 2 _ rfl
  rw [z24] at f2
  exact ⟨n, c0, c1, c2, rfl, f0, f1, f2⟩
theorem rdF29 (h : DataW.trod enc Try.prog w base spare held fuel 29 cs = some x) (hW : WOk Try.prog 29 x.1) : ∃ n c0 c1, cs = [c0, c1] ∧ (∃ y, DataW.trod enc Try.prog w base spare held n 9 [c0] = some y ∧ WOk Try.prog 9 y.1) ∧ (∃ y, DataW.trod enc Try.prog w base spare held n 27 [c1] = some y ∧ WOk Try.prog 27 y.1) := by
  have z9 : Try.prog.cellsOf 9 = 1 := by kernel_rfl
  have z27 : Try.prog.cellsOf 27 = 1 := by kernel_rfl
  obtain ⟨hl, n, hf⟩ := rdw_fields Try.underlying29 h hW
  have hz : Try.prog.cellsOf 29 = 2 := by kernel_rfl
  rw [hz] at hl
  obtain ⟨c0, c1, rfl⟩ := two_of hl
  have f0 : ∃ y, DataW.trod enc Try.prog w base spare held n 9 ((List.drop 0 [c0, c1]).take (Try.prog.cellsOf 9)) = some y ∧ WOk Try.prog 9 y.1 := hf 0 _ rfl
  rw [z9] at f0
  have f1 : ∃ y, DataW.trod enc Try.prog w base spare held n 27 ((List.drop 1 [c0, c1]).take (Try.prog.cellsOf 27)) = some y ∧ WOk Try.prog 27 y.1 := hf 1 _ rfl
  rw [z27] at f1
  exact ⟨n, c0, c1, rfl, f0, f1⟩
theorem rdF39 (h : DataW.trod enc Try.prog w base spare held fuel 39 cs = some x) (hW : WOk Try.prog 39 x.1) : ∃ n c0 c1 c2 c3, cs = [c0, c1, c2, c3] ∧ (∃ y, DataW.trod enc Try.prog w base spare held n 29 [c0, c1] = some y ∧ WOk Try.prog 29 y.1) ∧ (∃ y, DataW.trod enc Try.prog w base spare held n 3 [c2] = some y ∧ WOk Try.prog 3 y.1) ∧ (∃ y, DataW.trod enc Try.prog w base spare held n 37 [c3] = some y ∧ WOk Try.prog 37 y.1) := by
  have z3 : Try.prog.cellsOf 3 = 1 := by kernel_rfl
  have z29 : Try.prog.cellsOf 29 = 2 := by kernel_rfl
  have z37 : Try.prog.cellsOf 37 = 1 := by kernel_rfl
  obtain ⟨hl, n, hf⟩ := rdw_fields Try.underlying39 h hW
  have hz : Try.prog.cellsOf 39 = 4 := by kernel_rfl
  rw [hz] at hl
  obtain ⟨c0, c1, c2, c3, rfl⟩ := four_of hl
  have f0 : ∃ y, DataW.trod enc Try.prog w base spare held n 29 ((List.drop 0 [c0, c1, c2, c3]).take (Try.prog.cellsOf 29)) = some y ∧ WOk Try.prog 29 y.1 := hf 0 _ rfl
  rw [z29] at f0
  have f1 : ∃ y, DataW.trod enc Try.prog w base spare held n 3 ((List.drop 2 [c0, c1, c2, c3]).take (Try.prog.cellsOf 3)) = some y ∧ WOk Try.prog 3 y.1 := hf 1 _ rfl
  rw [z3] at f1
  have f2 : ∃ y, DataW.trod enc Try.prog w base spare held n 37 ((List.drop 3 [c0, c1, c2, c3]).take (Try.prog.cellsOf 37)) = some y ∧ WOk Try.prog 37 y.1 := hf 2 _ rfl
  rw [z37] at f2
  exact ⟨n, c0, c1, c2, c3, rfl, f0, f1, f2⟩
theorem rdF42 (h : DataW.trod enc Try.prog w base spare held fuel 42 cs = some x) (hW : WOk Try.prog 42 x.1) : ∃ n c0 c1 c2, cs = [c0, c1, c2] ∧ (∃ y, DataW.trod enc Try.prog w base spare held n 9 [c0] = some y ∧ WOk Try.prog 9 y.1) ∧ (∃ y, DataW.trod enc Try.prog w base spare held n 3 [c1] = some y ∧ WOk Try.prog 3 y.1) ∧ (∃ y, DataW.trod enc Try.prog w base spare held n 40 [c2] = some y ∧ WOk Try.prog 40 y.1) := by
  have z3 : Try.prog.cellsOf 3 = 1 := by kernel_rfl
  have z9 : Try.prog.cellsOf 9 = 1 := by kernel_rfl
  have z40 : Try.prog.cellsOf 40 = 1 := by kernel_rfl
  obtain ⟨hl, n, hf⟩ := rdw_fields Try.underlying42 h hW
  have hz : Try.prog.cellsOf 42 = 3 := by kernel_rfl
  rw [hz] at hl
  obtain ⟨c0, c1, c2, rfl⟩ := three_of hl
  have f0 : ∃ y, DataW.trod enc Try.prog w base spare held n 9 ((List.drop 0 [c0, c1, c2]).take (Try.prog.cellsOf 9)) = some y ∧ WOk Try.prog 9 y.1 := hf 0 _ rfl
  rw [z9] at f0
  have f1 : ∃ y, DataW.trod enc Try.prog w base spare held n 3 ((List.drop 1 [c0, c1, c2]).take (Try.prog.cellsOf 3)) = some y ∧ WOk Try.prog 3 y.1 := hf 1 _ rfl
  rw [z3] at f1
  have f2 : ∃ y, DataW.trod enc Try.prog w base spare held n 40 ((List.drop 2 [c0, c1, c2]).take (Try.prog.cellsOf 40)) = some y ∧ WOk Try.prog 40 y.1 := hf 2 _ rfl
  rw [z40] at f2
  exact ⟨n, c0, c1, c2, rfl, f0, f1, f2⟩
theorem rdF44 (h : DataW.trod enc Try.prog w base spare held fuel 44 cs = some x) (hW : WOk Try.prog 44 x.1) : ∃ n c0 c1, cs = [c0, c1] ∧ (∃ y, DataW.trod enc Try.prog w base spare held n 3 [c0] = some y ∧ WOk Try.prog 3 y.1) ∧ (∃ y, DataW.trod enc Try.prog w base spare held n 3 [c1] = some y ∧ WOk Try.prog 3 y.1) := by
  have z3 : Try.prog.cellsOf 3 = 1 := by kernel_rfl
  obtain ⟨hl, n, hf⟩ := rdw_fields Try.underlying44 h hW
  have hz : Try.prog.cellsOf 44 = 2 := by kernel_rfl
  rw [hz] at hl
  obtain ⟨c0, c1, rfl⟩ := two_of hl
  have f0 : ∃ y, DataW.trod enc Try.prog w base spare held n 3 ((List.drop 0 [c0, c1]).take (Try.prog.cellsOf 3)) = some y ∧ WOk Try.prog 3 y.1 := hf 0 _ rfl
  rw [z3] at f0
  have f1 : ∃ y, DataW.trod enc Try.prog w base spare held n 3 ((List.drop 1 [c0, c1]).take (Try.prog.cellsOf 3)) = some y ∧ WOk Try.prog 3 y.1 := hf 1 _ rfl
  rw [z3] at f1
  exact ⟨n, c0, c1, rfl, f0, f1⟩
theorem rdF53 (h : DataW.trod enc Try.prog w base spare held fuel 53 cs = some x) (hW : WOk Try.prog 53 x.1) : ∃ n c0 c1 c2 c3 c4 c5, cs = [c0, c1, c2, c3, c4, c5] ∧ (∃ y, DataW.trod enc Try.prog w base spare held n 3 [c0] = some y ∧ WOk Try.prog 3 y.1) ∧ (∃ y, DataW.trod enc Try.prog w base spare held n 3 [c1] = some y ∧ WOk Try.prog 3 y.1) ∧ (∃ y, DataW.trod enc Try.prog w base spare held n 3 [c2] = some y ∧ WOk Try.prog 3 y.1) ∧ (∃ y, DataW.trod enc Try.prog w base spare held n 3 [c3] = some y ∧ WOk Try.prog 3 y.1) ∧ (∃ y, DataW.trod enc Try.prog w base spare held n 3 [c4] = some y ∧ WOk Try.prog 3 y.1) ∧ (∃ y, DataW.trod enc Try.prog w base spare held n 3 [c5] = some y ∧ WOk Try.prog 3 y.1) := by
  have z3 : Try.prog.cellsOf 3 = 1 := by kernel_rfl
  obtain ⟨hl, n, hf⟩ := rdw_fields Try.underlying53 h hW
  have hz : Try.prog.cellsOf 53 = 6 := by kernel_rfl
  rw [hz] at hl
  obtain ⟨c0, c1, c2, c3, c4, c5, rfl⟩ := six_of hl
  have f0 : ∃ y, DataW.trod enc Try.prog w base spare held n 3 ((List.drop 0 [c0, c1, c2, c3, c4, c5]).take (Try.prog.cellsOf 3)) = some y ∧ WOk Try.prog 3 y.1 := hf 0 _ rfl
  rw [z3] at f0
  have f1 : ∃ y, DataW.trod enc Try.prog w base spare held n 3 ((List.drop 1 [c0, c1, c2, c3, c4, c5]).take (Try.prog.cellsOf 3)) = some y ∧ WOk Try.prog 3 y.1 := hf 1 _ rfl
  rw [z3] at f1
  have f2 : ∃ y, DataW.trod enc Try.prog w base spare held n 3 ((List.drop 2 [c0, c1, c2, c3, c4, c5]).take (Try.prog.cellsOf 3)) = some y ∧ WOk Try.prog 3 y.1 := hf 2 _ rfl
  rw [z3] at f2
  have f3 : ∃ y, DataW.trod enc Try.prog w base spare held n 3 ((List.drop 3 [c0, c1, c2, c3, c4, c5]).take (Try.prog.cellsOf 3)) = some y ∧ WOk Try.prog 3 y.1 := hf 3 _ rfl
  rw [z3] at f3
  have f4 : ∃ y, DataW.trod enc Try.prog w base spare held n 3 ((List.drop 4 [c0, c1, c2, c3, c4, c5]).take (Try.prog.cellsOf 3)) = some y ∧ WOk Try.prog 3 y.1 := hf 4 _ rfl
  rw [z3] at f4
  have f5 : ∃ y, DataW.trod enc Try.prog w base spare held n 3 ((List.drop 5 [c0, c1, c2, c3, c4, c5]).take (Try.prog.cellsOf 3)) = some y ∧ WOk Try.prog 3 y.1 := hf 5 _ rfl
  rw [z3] at f5
  exact ⟨n, c0, c1, c2, c3, c4, c5, rfl, f0, f1, f2, f3, f4, f5⟩
theorem rdF68 (h : DataW.trod enc Try.prog w base spare held fuel 68 cs = some x) (hW : WOk Try.prog 68 x.1) : ∃ n c0 c1 c2 c3, cs = [c0, c1, c2, c3] ∧ (∃ y, DataW.trod enc Try.prog w base spare held n 5 [c0] = some y ∧ WOk Try.prog 5 y.1) ∧ (∃ y, DataW.trod enc Try.prog w base spare held n 44 [c1, c2] = some y ∧ WOk Try.prog 44 y.1) ∧ (∃ y, DataW.trod enc Try.prog w base spare held n 5 [c3] = some y ∧ WOk Try.prog 5 y.1) := by
  have z5 : Try.prog.cellsOf 5 = 1 := by kernel_rfl
  have z44 : Try.prog.cellsOf 44 = 2 := by kernel_rfl
  obtain ⟨hl, n, hf⟩ := rdw_fields Try.underlying68 h hW
  have hz : Try.prog.cellsOf 68 = 4 := by kernel_rfl
  rw [hz] at hl
  obtain ⟨c0, c1, c2, c3, rfl⟩ := four_of hl
  have f0 : ∃ y, DataW.trod enc Try.prog w base spare held n 5 ((List.drop 0 [c0, c1, c2, c3]).take (Try.prog.cellsOf 5)) = some y ∧ WOk Try.prog 5 y.1 := hf 0 _ rfl
  rw [z5] at f0
  have f1 : ∃ y, DataW.trod enc Try.prog w base spare held n 44 ((List.drop 1 [c0, c1, c2, c3]).take (Try.prog.cellsOf 44)) = some y ∧ WOk Try.prog 44 y.1 := hf 1 _ rfl
  rw [z44] at f1
  have f2 : ∃ y, DataW.trod enc Try.prog w base spare held n 5 ((List.drop 3 [c0, c1, c2, c3]).take (Try.prog.cellsOf 5)) = some y ∧ WOk Try.prog 5 y.1 := hf 2 _ rfl
  rw [z5] at f2
  exact ⟨n, c0, c1, c2, c3, rfl, f0, f1, f2⟩
theorem rdF70 (h : DataW.trod enc Try.prog w base spare held fuel 70 cs = some x) (hW : WOk Try.prog 70 x.1) : ∃ n c0 c1 c2 c3 c4 c5, cs = [c0, c1, c2, c3, c4, c5] ∧ (∃ y, DataW.trod enc Try.prog w base spare held n 68 [c0, c1, c2, c3] = some y ∧ WOk Try.prog 68 y.1) ∧ (∃ y, DataW.trod enc Try.prog w base spare held n 3 [c4] = some y ∧ WOk Try.prog 3 y.1) ∧ (∃ y, DataW.trod enc Try.prog w base spare held n 3 [c5] = some y ∧ WOk Try.prog 3 y.1) := by
  have z3 : Try.prog.cellsOf 3 = 1 := by kernel_rfl
  have z68 : Try.prog.cellsOf 68 = 4 := by kernel_rfl
  obtain ⟨hl, n, hf⟩ := rdw_fields Try.underlying70 h hW
  have hz : Try.prog.cellsOf 70 = 6 := by kernel_rfl
  rw [hz] at hl
  obtain ⟨c0, c1, c2, c3, c4, c5, rfl⟩ := six_of hl
  have f0 : ∃ y, DataW.trod enc Try.prog w base spare held n 68 ((List.drop 0 [c0, c1, c2, c3, c4, c5]).take (Try.prog.cellsOf 68)) = some y ∧ WOk Try.prog 68 y.1 := hf 0 _ rfl
  rw [z68] at f0
  have f1 : ∃ y, DataW.trod enc Try.prog w base spare held n 3 ((List.drop 4 [c0, c1, c2, c3, c4, c5]).take (Try.prog.cellsOf 3)) = some y ∧ WOk Try.prog 3 y.1 := hf 1 _ rfl
  rw [z3] at f1
  have f2 : ∃ y, DataW.trod enc Try.prog w base spare held n 3 ((List.drop 5 [c0, c1, c2, c3, c4, c5]).take (Try.prog.cellsOf 3)) = some y ∧ WOk Try.prog 3 y.1 := hf 2 _ rfl
  rw [z3] at f2
  exact ⟨n, c0, c1, c2, c3, c4, c5, rfl, f0, f1, f2⟩
theorem rdF79 (h : DataW.trod enc Try.prog w base spare held fuel 79 cs = some x) (hW : WOk Try.prog 79 x.1) : ∃ n c0 c1 c2 c3 c4 c5, cs = [c0, c1, c2, c3, c4, c5] ∧ (∃ y, DataW.trod enc Try.prog w base spare held n 9 [c0] = some y ∧ WOk Try.prog 9 y.1) ∧ (∃ y, DataW.trod enc Try.prog w base spare held n 3 [c1] = some y ∧ WOk Try.prog 3 y.1) ∧ (∃ y, DataW.trod enc Try.prog w base spare held n 3 [c2] = some y ∧ WOk Try.prog 3 y.1) ∧ (∃ y, DataW.trod enc Try.prog w base spare held n 3 [c3] = some y ∧ WOk Try.prog 3 y.1) ∧ (∃ y, DataW.trod enc Try.prog w base spare held n 30 [c4] = some y ∧ WOk Try.prog 30 y.1) ∧ (∃ y, DataW.trod enc Try.prog w base spare held n 4 [c5] = some y ∧ WOk Try.prog 4 y.1) := by
  have z3 : Try.prog.cellsOf 3 = 1 := by kernel_rfl
  have z4 : Try.prog.cellsOf 4 = 1 := by kernel_rfl
  have z9 : Try.prog.cellsOf 9 = 1 := by kernel_rfl
  have z30 : Try.prog.cellsOf 30 = 1 := by kernel_rfl
  obtain ⟨hl, n, hf⟩ := rdw_fields Try.underlying79 h hW
  have hz : Try.prog.cellsOf 79 = 6 := by kernel_rfl
  rw [hz] at hl
  obtain ⟨c0, c1, c2, c3, c4, c5, rfl⟩ := six_of hl
  have f0 : ∃ y, DataW.trod enc Try.prog w base spare held n 9 ((List.drop 0 [c0, c1, c2, c3, c4, c5]).take (Try.prog.cellsOf 9)) = some y ∧ WOk Try.prog 9 y.1 := hf 0 _ rfl
  rw [z9] at f0
  have f1 : ∃ y, DataW.trod enc Try.prog w base spare held n 3 ((List.drop 1 [c0, c1, c2, c3, c4, c5]).take (Try.prog.cellsOf 3)) = some y ∧ WOk Try.prog 3 y.1 := hf 1 _ rfl
  rw [z3] at f1
  have f2 : ∃ y, DataW.trod enc Try.prog w base spare held n 3 ((List.drop 2 [c0, c1, c2, c3, c4, c5]).take (Try.prog.cellsOf 3)) = some y ∧ WOk Try.prog 3 y.1 := hf 2 _ rfl
  rw [z3] at f2
  have f3 : ∃ y, DataW.trod enc Try.prog w base spare held n 3 ((List.drop 3 [c0, c1, c2, c3, c4, c5]).take (Try.prog.cellsOf 3)) = some y ∧ WOk Try.prog 3 y.1 := hf 3 _ rfl
  rw [z3] at f3
  have f4 : ∃ y, DataW.trod enc Try.prog w base spare held n 30 ((List.drop 4 [c0, c1, c2, c3, c4, c5]).take (Try.prog.cellsOf 30)) = some y ∧ WOk Try.prog 30 y.1 := hf 4 _ rfl
  rw [z30] at f4
  have f5 : ∃ y, DataW.trod enc Try.prog w base spare held n 4 ((List.drop 5 [c0, c1, c2, c3, c4, c5]).take (Try.prog.cellsOf 4)) = some y ∧ WOk Try.prog 4 y.1 := hf 5 _ rfl
  rw [z4] at f5
  exact ⟨n, c0, c1, c2, c3, c4, c5, rfl, f0, f1, f2, f3, f4, f5⟩
theorem rdF89 (h : DataW.trod enc Try.prog w base spare held fuel 89 cs = some x) (hW : WOk Try.prog 89 x.1) : ∃ n c0 c1 c2 c3 c4, cs = [c0, c1, c2, c3, c4] ∧ (∃ y, DataW.trod enc Try.prog w base spare held n 3 [c0] = some y ∧ WOk Try.prog 3 y.1) ∧ (∃ y, DataW.trod enc Try.prog w base spare held n 3 [c1] = some y ∧ WOk Try.prog 3 y.1) ∧ (∃ y, DataW.trod enc Try.prog w base spare held n 3 [c2] = some y ∧ WOk Try.prog 3 y.1) ∧ (∃ y, DataW.trod enc Try.prog w base spare held n 3 [c3] = some y ∧ WOk Try.prog 3 y.1) ∧ (∃ y, DataW.trod enc Try.prog w base spare held n 3 [c4] = some y ∧ WOk Try.prog 3 y.1) := by
  have z3 : Try.prog.cellsOf 3 = 1 := by kernel_rfl
  obtain ⟨hl, n, hf⟩ := rdw_fields Try.underlying89 h hW
  have hz : Try.prog.cellsOf 89 = 5 := by kernel_rfl
  rw [hz] at hl
  obtain ⟨c0, c1, c2, c3, c4, rfl⟩ := five_of hl
  have f0 : ∃ y, DataW.trod enc Try.prog w base spare held n 3 ((List.drop 0 [c0, c1, c2, c3, c4]).take (Try.prog.cellsOf 3)) = some y ∧ WOk Try.prog 3 y.1 := hf 0 _ rfl
  rw [z3] at f0
  have f1 : ∃ y, DataW.trod enc Try.prog w base spare held n 3 ((List.drop 1 [c0, c1, c2, c3, c4]).take (Try.prog.cellsOf 3)) = some y ∧ WOk Try.prog 3 y.1 := hf 1 _ rfl
  rw [z3] at f1
  have f2 : ∃ y, DataW.trod enc Try.prog w base spare held n 3 ((List.drop 2 [c0, c1, c2, c3, c4]).take (Try.prog.cellsOf 3)) = some y ∧ WOk Try.prog 3 y.1 := hf 2 _ rfl
  rw [z3] at f2
  have f3 : ∃ y, DataW.trod enc Try.prog w base spare held n 3 ((List.drop 3 [c0, c1, c2, c3, c4]).take (Try.prog.cellsOf 3)) = some y ∧ WOk Try.prog 3 y.1 := hf 3 _ rfl
  rw [z3] at f3
  have f4 : ∃ y, DataW.trod enc Try.prog w base spare held n 3 ((List.drop 4 [c0, c1, c2, c3, c4]).take (Try.prog.cellsOf 3)) = some y ∧ WOk Try.prog 3 y.1 := hf 4 _ rfl
  rw [z3] at f4
  exact ⟨n, c0, c1, c2, c3, c4, rfl, f0, f1, f2, f3, f4⟩
end
end Go.Proofs.Ytghgnofilbnbaaa
/- part Rd1 -/
namespace Go.Proofs.Ytghgnofilbnbaaa
open Go Bx
theorem rd_Spn : RdW Try.prog 44 RSpn := by
  intro H enc w base spare held fuel cs x h hW
  obtain ⟨n, c0, c1, rfl, ⟨y0, f0, k0⟩, ⟨y1, f1, k1⟩⟩ := rdF44 h hW
  obtain ⟨a0, g0⟩ := (Rd.w (rd_int Try.underlying3)) _ _ _ _ _ _ _ _ _ f0 k0
  obtain ⟨a1, g1⟩ := (Rd.w (rd_int Try.underlying3)) _ _ _ _ _ _ _ _ _ f1 k1
  obtain ⟨e0, i0⟩ := g0; obtain ⟨e1, i1⟩ := g1; cases e0; cases e1; exact ⟨⟨a0, a1⟩, rfl, i0, i1⟩
theorem rd_Spns : RdW Try.prog 40 (fun w cs (l : List Spn) => ∃ v, cs = [v] ∧ Sl w 2 RSpn v l ∧ l.length * 16 ≤ 140737488351232) := rdw_slice rd_Spn (by kernel_rfl) (by decide) Try.underlying40 (by kernel_rfl)
theorem rd_Ints : RdW Try.prog 30 (fun w cs (l : List Int) => ∃ v, cs = [v] ∧ Sl w 1 RInt v l ∧ l.length * 8 ≤ 140737488351232) := rdw_slice (Rd.w (rd_int Try.underlying3)) (by kernel_rfl) (by decide) Try.underlying30 (by kernel_rfl)
theorem rd_Nams : RdW Try.prog 23 (fun w cs (l : List ByteArray) => ∃ v, cs = [v] ∧ Sl w 1 RNam v l ∧ l.length * 16 ≤ 140737488351232) := rdw_slice (Rd.w (rd_str Try.underlying9)) (by kernel_rfl) (by decide) Try.underlying23 (by kernel_rfl)
theorem rd_Opr : RdW Try.prog 42 ROprS := by
  intro H enc w base spare held fuel cs x h hW
  obtain ⟨n, c0, c1, c2, rfl, ⟨y0, f0, k0⟩, ⟨y1, f1, k1⟩, ⟨y2, f2, k2⟩⟩ := rdF42 h hW
  obtain ⟨a0, g0⟩ := (Rd.w (rd_str Try.underlying9)) _ _ _ _ _ _ _ _ _ f0 k0
  obtain ⟨a1, g1⟩ := (Rd.w (rd_int Try.underlying3)) _ _ _ _ _ _ _ _ _ f1 k1
  obtain ⟨a2, g2⟩ := rd_Spns _ _ _ _ _ _ _ _ _ f2 k2
  obtain ⟨e0, i0⟩ := g0; obtain ⟨e1, i1⟩ := g1; obtain ⟨v2, e2, i2, r2⟩ := g2; cases e0; cases e1; cases e2; exact ⟨⟨a0, a1, a2⟩, ⟨_, rfl, i0, i1, i2, Nat.le_trans r2 (by decide)⟩, r2⟩
theorem rd_Oprs : RdW Try.prog 22 (fun w cs (l : List Opr) => ∃ v, cs = [v] ∧ Sl w 3 ROprS v l ∧ l.length * 48 ≤ 140737488351232) := rdw_slice rd_Opr (by kernel_rfl) (by decide) Try.underlying22 (by kernel_rfl)
theorem rd_Knd : RdW Try.prog 79 RKnd := by
  intro H enc w base spare held fuel cs x h hW
  obtain ⟨n, c0, c1, c2, c3, c4, c5, rfl, ⟨y0, f0, k0⟩, ⟨y1, f1, k1⟩, ⟨y2, f2, k2⟩, ⟨y3, f3, k3⟩, ⟨y4, f4, k4⟩, ⟨y5, f5, k5⟩⟩ := rdF79 h hW
  obtain ⟨a0, g0⟩ := (Rd.w (rd_str Try.underlying9)) _ _ _ _ _ _ _ _ _ f0 k0
  obtain ⟨a1, g1⟩ := (Rd.w (rd_int Try.underlying3)) _ _ _ _ _ _ _ _ _ f1 k1
  obtain ⟨a2, g2⟩ := (Rd.w (rd_int Try.underlying3)) _ _ _ _ _ _ _ _ _ f2 k2
  obtain ⟨a3, g3⟩ := (Rd.w (rd_int Try.underlying3)) _ _ _ _ _ _ _ _ _ f3 k3
  obtain ⟨a4, g4⟩ := rd_Ints _ _ _ _ _ _ _ _ _ f4 k4
  obtain ⟨a5, g5⟩ := (Rd.w (rd_bool Try.underlying4)) _ _ _ _ _ _ _ _ _ f5 k5
  obtain ⟨e0, i0⟩ := g0; obtain ⟨e1, i1⟩ := g1; obtain ⟨e2, i2⟩ := g2; obtain ⟨e3, i3⟩ := g3; obtain ⟨v4, e4, i4, r4⟩ := g4; have e5 : [c5] = [Value.bool a5] := g5; cases e0; cases e1; cases e2; cases e3; cases e4; cases e5; exact ⟨⟨a0, a1, a2, a3, a4, a5⟩, _, rfl, i0, i1, i2, i3, i4, r4⟩
theorem rd_Knds : RdW Try.prog 24 (fun w cs (l : List Knd) => ∃ v, cs = [v] ∧ Sl w 6 RKnd v l ∧ l.length * 72 ≤ 140737488351232) := rdw_slice rd_Knd (by kernel_rfl) (by decide) Try.underlying24 (by kernel_rfl)
theorem rd_CrewS : RdW Try.prog 26 RCrewS := by
  intro H enc w base spare held fuel cs x h hW
  obtain ⟨n, c0, c1, c2, rfl, ⟨y0, f0, k0⟩, ⟨y1, f1, k1⟩, ⟨y2, f2, k2⟩⟩ := rdF26 h hW
  obtain ⟨a0, g0⟩ := rd_Oprs _ _ _ _ _ _ _ _ _ f0 k0
  obtain ⟨a1, g1⟩ := rd_Nams _ _ _ _ _ _ _ _ _ f1 k1
  obtain ⟨a2, g2⟩ := rd_Knds _ _ _ _ _ _ _ _ _ f2 k2
  obtain ⟨v0, e0, i0, r0⟩ := g0; obtain ⟨v1, e1, i1, r1⟩ := g1; obtain ⟨v2, e2, i2, r2⟩ := g2; cases e0; cases e1; cases e2; exact ⟨⟨a0, a1, a2⟩, ⟨_, _, _, rfl, i0.mono (fun _ _ h => h.1), i1, i2, r0⟩, sl_all i0 (fun _ _ h => h.2)⟩
theorem rd_Crew : RdW Try.prog 26 RCrew := fun H enc w base spare held fuel cs x h hW => by obtain ⟨a, h⟩ := rd_CrewS H enc w base spare held fuel cs x h hW; exact ⟨a, h.1⟩
theorem rd_Act : RdW Try.prog 53 RAct := by
  intro H enc w base spare held fuel cs x h hW
  obtain ⟨n, c0, c1, c2, c3, c4, c5, rfl, ⟨y0, f0, k0⟩, ⟨y1, f1, k1⟩, ⟨y2, f2, k2⟩, ⟨y3, f3, k3⟩, ⟨y4, f4, k4⟩, ⟨y5, f5, k5⟩⟩ := rdF53 h hW
  obtain ⟨a0, g0⟩ := (Rd.w (rd_int Try.underlying3)) _ _ _ _ _ _ _ _ _ f0 k0
  obtain ⟨a1, g1⟩ := (Rd.w (rd_int Try.underlying3)) _ _ _ _ _ _ _ _ _ f1 k1
  obtain ⟨a2, g2⟩ := (Rd.w (rd_int Try.underlying3)) _ _ _ _ _ _ _ _ _ f2 k2
  obtain ⟨a3, g3⟩ := (Rd.w (rd_int Try.underlying3)) _ _ _ _ _ _ _ _ _ f3 k3
  obtain ⟨a4, g4⟩ := (Rd.w (rd_int Try.underlying3)) _ _ _ _ _ _ _ _ _ f4 k4
  obtain ⟨a5, g5⟩ := (Rd.w (rd_int Try.underlying3)) _ _ _ _ _ _ _ _ _ f5 k5
  obtain ⟨e0, i0⟩ := g0; obtain ⟨e1, i1⟩ := g1; obtain ⟨e2, i2⟩ := g2; obtain ⟨e3, i3⟩ := g3; obtain ⟨e4, i4⟩ := g4; obtain ⟨e5, i5⟩ := g5; cases e0; cases e1; cases e2; cases e3; cases e4; cases e5; exact ⟨⟨a0, a1, a2, a3, a4, a5⟩, rfl, i0, i1, i2, i3, i4, i5⟩
theorem rd_Acts : RdW Try.prog 37 (fun w cs (l : List Acn) => ∃ v, cs = [v] ∧ Sl w 6 RAct v l ∧ l.length * 48 ≤ 140737488351232) := rdw_slice rd_Act (by kernel_rfl) (by decide) Try.underlying37 (by kernel_rfl)
theorem rd_Stp : RdW Try.prog 89 RStp := by
  intro H enc w base spare held fuel cs x h hW
  obtain ⟨n, c0, c1, c2, c3, c4, rfl, ⟨y0, f0, k0⟩, ⟨y1, f1, k1⟩, ⟨y2, f2, k2⟩, ⟨y3, f3, k3⟩, ⟨y4, f4, k4⟩⟩ := rdF89 h hW
  obtain ⟨a0, g0⟩ := (Rd.w (rd_int Try.underlying3)) _ _ _ _ _ _ _ _ _ f0 k0
  obtain ⟨a1, g1⟩ := (Rd.w (rd_int Try.underlying3)) _ _ _ _ _ _ _ _ _ f1 k1
  obtain ⟨a2, g2⟩ := (Rd.w (rd_int Try.underlying3)) _ _ _ _ _ _ _ _ _ f2 k2
  obtain ⟨a3, g3⟩ := (Rd.w (rd_int Try.underlying3)) _ _ _ _ _ _ _ _ _ f3 k3
  obtain ⟨a4, g4⟩ := (Rd.w (rd_int Try.underlying3)) _ _ _ _ _ _ _ _ _ f4 k4
  obtain ⟨e0, i0⟩ := g0; obtain ⟨e1, i1⟩ := g1; obtain ⟨e2, i2⟩ := g2; obtain ⟨e3, i3⟩ := g3; obtain ⟨e4, i4⟩ := g4; cases e0; cases e1; cases e2; cases e3; cases e4; exact ⟨⟨a0, a1, a2, a3, a4⟩, rfl, i0, i1, i2, i3, i4⟩
theorem rd_Stps : RdW Try.prog 27 (fun w cs (l : List Stp) => ∃ v, cs = [v] ∧ Sl w 5 RStp v l ∧ l.length * 40 ≤ 140737488351232) := rdw_slice rd_Stp (by kernel_rfl) (by decide) Try.underlying27 (by kernel_rfl)
theorem rd_Scr : RdW Try.prog 29 RScr := by
  intro H enc w base spare held fuel cs x h hW
  obtain ⟨n, c0, c1, rfl, ⟨y0, f0, k0⟩, ⟨y1, f1, k1⟩⟩ := rdF29 h hW
  obtain ⟨a0, g0⟩ := (Rd.w (rd_str Try.underlying9)) _ _ _ _ _ _ _ _ _ f0 k0
  obtain ⟨a1, g1⟩ := rd_Stps _ _ _ _ _ _ _ _ _ f1 k1
  obtain ⟨e0, i0⟩ := g0; obtain ⟨v1, e1, i1, r1⟩ := g1; cases e0; cases e1; exact ⟨⟨a0, a1⟩, _, rfl, i0, i1⟩
theorem rd_Drl : RdW Try.prog 39 RDrl := by
  intro H enc w base spare held fuel cs x h hW
  obtain ⟨n, c0, c1, c2, c3, rfl, ⟨y0, f0, k0⟩, ⟨y1, f1, k1⟩, ⟨y2, f2, k2⟩⟩ := rdF39 h hW
  obtain ⟨a0, g0⟩ := rd_Scr _ _ _ _ _ _ _ _ _ f0 k0
  obtain ⟨a1, g1⟩ := (Rd.w (rd_int Try.underlying3)) _ _ _ _ _ _ _ _ _ f1 k1
  obtain ⟨a2, g2⟩ := rd_Acts _ _ _ _ _ _ _ _ _ f2 k2
  obtain ⟨v0, e0, i0, j0⟩ := g0; obtain ⟨e1, i1⟩ := g1; obtain ⟨v2, e2, i2, r2⟩ := g2; cases e0; cases e1; cases e2; exact ⟨⟨a0, a1, a2⟩, _, _, rfl, i0, j0, i1, i2⟩
theorem rd_Mor : RdW Try.prog 68 RMor := by
  intro H enc w base spare held fuel cs x h hW
  obtain ⟨n, c0, c1, c2, c3, rfl, ⟨y0, f0, k0⟩, ⟨y1, f1, k1⟩, ⟨y2, f2, k2⟩⟩ := rdF68 h hW
  obtain ⟨a0, g0⟩ := (Rd.w (rd_u8 Try.underlying5)) _ _ _ _ _ _ _ _ _ f0 k0
  obtain ⟨a1, g1⟩ := rd_Spn _ _ _ _ _ _ _ _ _ f1 k1
  obtain ⟨a2, g2⟩ := (Rd.w (rd_u8 Try.underlying5)) _ _ _ _ _ _ _ _ _ f2 k2
  obtain ⟨e0, i0⟩ := g0; obtain ⟨e1, i1⟩ := g1; obtain ⟨e2, i2⟩ := g2; cases e0; cases e1; cases e2; exact ⟨⟨a0, a1, a2⟩, rfl, i0, i1, i2⟩
theorem rd_Xtr : RdW Try.prog 70 RXtr := by
  intro H enc w base spare held fuel cs x h hW
  obtain ⟨n, c0, c1, c2, c3, c4, c5, rfl, ⟨y0, f0, k0⟩, ⟨y1, f1, k1⟩, ⟨y2, f2, k2⟩⟩ := rdF70 h hW
  obtain ⟨a0, g0⟩ := rd_Mor _ _ _ _ _ _ _ _ _ f0 k0
  obtain ⟨a1, g1⟩ := (Rd.w (rd_int Try.underlying3)) _ _ _ _ _ _ _ _ _ f1 k1
  obtain ⟨a2, g2⟩ := (Rd.w (rd_int Try.underlying3)) _ _ _ _ _ _ _ _ _ f2 k2
  obtain ⟨e0, i0, j0, l0⟩ := g0; obtain ⟨e1, i1⟩ := g1; obtain ⟨e2, i2⟩ := g2; cases e0; cases e1; cases e2; exact ⟨⟨a0.who, a0.sp, a0.gr, a1, a2⟩, rfl, i0, j0, l0, i1, i2⟩
end Go.Proofs.Ytghgnofilbnbaaa
