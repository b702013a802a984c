/- What the reader reads at the struct and array types of the arguments, field by field. -/
import Derived.Test.YtpgmehignepidaaLib11
import Derived.Test.YtpgmehignepidaaProg
set_option linter.all false
namespace Go.Proofs.Ytpgmehignepidaa
open Go Bx
section
variable {H : Type} {enc : TypeId × Value → H} {w : World} {base : Nat} {spare : Nat → Bool} {held : Bool} {fuel : Nat} {cs : List Value} {x : DataW H × List MemPlace}
theorem rdF24 (h : DataW.trod enc Try.prog w base spare held fuel 24 cs = some x) : ∃ n c0 c1, cs = [c0, c1] ∧ (∃ y, DataW.trod enc Try.prog w base spare held n 3 [c0] = some y) ∧ (∃ y, DataW.trod enc Try.prog w base spare held n 22 [c1] = some y) := by
  have z3 : Try.prog.cellsOf 3 = 1 := by kernel_rfl
  have z22 : Try.prog.cellsOf 22 = 1 := by kernel_rfl
  obtain ⟨hl, n, hf⟩ := rd_fields Try.underlying24 h
  have hz : Try.prog.cellsOf 24 = 2 := by kernel_rfl
  rw [hz] at hl
  obtain ⟨c0, c1, rfl⟩ := two_of hl
  have f0 : ∃ y, DataW.trod enc Try.prog w base spare held n 3 ((List.drop 0 [c0, c1]).take (Try.prog.cellsOf 3)) = some y := hf 0 _ rfl
  rw [z3] at f0
  have f1 : ∃ y, DataW.trod enc Try.prog w base spare held n 22 ((List.drop 1 [c0, c1]).take (Try.prog.cellsOf 22)) = some y := hf 1 _ rfl
  rw [z22] at f1
  exact ⟨n, c0, c1, rfl, f0, f1⟩
theorem rdF34 (h : DataW.trod enc Try.prog w base spare held fuel 34 cs = some x) : ∃ n c0 c1 c2 c3 c4, cs = [c0, c1, c2, c3, c4] ∧ (∃ y, DataW.trod enc Try.prog w base spare held n 9 [c0] = some y) ∧ (∃ y, DataW.trod enc Try.prog w base spare held n 3 [c1] = some y) ∧ (∃ y, DataW.trod enc Try.prog w base spare held n 3 [c2] = some y) ∧ (∃ y, DataW.trod enc Try.prog w base spare held n 31 [c3] = some y) ∧ (∃ y, DataW.trod enc Try.prog w base spare held n 32 [c4] = some y) := by
  have z3 : Try.prog.cellsOf 3 = 1 := by kernel_rfl
  have z9 : Try.prog.cellsOf 9 = 1 := by kernel_rfl
  have z31 : Try.prog.cellsOf 31 = 1 := by kernel_rfl
  have z32 : Try.prog.cellsOf 32 = 1 := by kernel_rfl
  obtain ⟨hl, n, hf⟩ := rd_fields Try.underlying34 h
  have hz : Try.prog.cellsOf 34 = 5 := by kernel_rfl
  rw [hz] at hl
  obtain ⟨c0, c1, c2, c3, c4, rfl⟩ := five_of hl
  have f0 : ∃ y, DataW.trod enc Try.prog w base spare held n 9 ((List.drop 0 [c0, c1, c2, c3, c4]).take (Try.prog.cellsOf 9)) = some y := hf 0 _ rfl
  rw [z9] at f0
  have f1 : ∃ y, DataW.trod enc Try.prog w base spare held n 3 ((List.drop 1 [c0, c1, c2, c3, c4]).take (Try.prog.cellsOf 3)) = some y := hf 1 _ rfl
  rw [z3] at f1
  have f2 : ∃ y, DataW.trod enc Try.prog w base spare held n 3 ((List.drop 2 [c0, c1, c2, c3, c4]).take (Try.prog.cellsOf 3)) = some y := hf 2 _ rfl
  rw [z3] at f2
  have f3 : ∃ y, DataW.trod enc Try.prog w base spare held n 31 ((List.drop 3 [c0, c1, c2, c3, c4]).take (Try.prog.cellsOf 31)) = some y := hf 3 _ rfl
  rw [z31] at f3
  have f4 : ∃ y, DataW.trod enc Try.prog w base spare held n 32 ((List.drop 4 [c0, c1, c2, c3, c4]).take (Try.prog.cellsOf 32)) = some y := hf 4 _ rfl
  rw [z32] at f4
  exact ⟨n, c0, c1, c2, c3, c4, rfl, f0, f1, f2, f3, f4⟩
theorem rdF38 (h : DataW.trod enc Try.prog w base spare held fuel 38 cs = some x) : ∃ n c0 c1, cs = [c0, c1] ∧ (∃ y, DataW.trod enc Try.prog w base spare held n 3 [c0] = some y) ∧ (∃ y, DataW.trod enc Try.prog w base spare held n 3 [c1] = some y) := by
  have z3 : Try.prog.cellsOf 3 = 1 := by kernel_rfl
  obtain ⟨hl, n, hf⟩ := rd_fields Try.underlying38 h
  have hz : Try.prog.cellsOf 38 = 2 := by kernel_rfl
  rw [hz] at hl
  obtain ⟨c0, c1, rfl⟩ := two_of hl
  have f0 : ∃ y, DataW.trod enc Try.prog w base spare held n 3 ((List.drop 0 [c0, c1]).take (Try.prog.cellsOf 3)) = some y := hf 0 _ rfl
  rw [z3] at f0
  have f1 : ∃ y, DataW.trod enc Try.prog w base spare held n 3 ((List.drop 1 [c0, c1]).take (Try.prog.cellsOf 3)) = some y := hf 1 _ rfl
  rw [z3] at f1
  exact ⟨n, c0, c1, rfl, f0, f1⟩
theorem rdF46 (h : DataW.trod enc Try.prog w base spare held fuel 46 cs = some x) : ∃ n c0 c1 c2 c3 c4 c5, cs = [c0, c1, c2, c3, c4, c5] ∧ (∃ y, DataW.trod enc Try.prog w base spare held n 9 [c0] = some y) ∧ (∃ y, DataW.trod enc Try.prog w base spare held n 44 [c1] = some y) ∧ (∃ y, DataW.trod enc Try.prog w base spare held n 3 [c2] = some y) ∧ (∃ y, DataW.trod enc Try.prog w base spare held n 3 [c3] = some y) ∧ (∃ y, DataW.trod enc Try.prog w base spare held n 3 [c4] = some y) ∧ (∃ y, DataW.trod enc Try.prog w base spare held n 3 [c5] = some y) := by
  have z3 : Try.prog.cellsOf 3 = 1 := by kernel_rfl
  have z9 : Try.prog.cellsOf 9 = 1 := by kernel_rfl
  have z44 : Try.prog.cellsOf 44 = 1 := by kernel_rfl
  obtain ⟨hl, n, hf⟩ := rd_fields Try.underlying46 h
  have hz : Try.prog.cellsOf 46 = 6 := by kernel_rfl
  rw [hz] at hl
  obtain ⟨c0, c1, c2, c3, c4, c5, rfl⟩ := six_of hl
  have f0 : ∃ y, DataW.trod enc Try.prog w base spare held n 9 ((List.drop 0 [c0, c1, c2, c3, c4, c5]).take (Try.prog.cellsOf 9)) = some y := hf 0 _ rfl
  rw [z9] at f0
  have f1 : ∃ y, DataW.trod enc Try.prog w base spare held n 44 ((List.drop 1 [c0, c1, c2, c3, c4, c5]).take (Try.prog.cellsOf 44)) = some y := hf 1 _ rfl
  rw [z44] at f1
  have f2 : ∃ y, DataW.trod enc Try.prog w base spare held n 3 ((List.drop 2 [c0, c1, c2, c3, c4, c5]).take (Try.prog.cellsOf 3)) = some y := hf 2 _ rfl
  rw [z3] at f2
  have f3 : ∃ y, DataW.trod enc Try.prog w base spare held n 3 ((List.drop 3 [c0, c1, c2, c3, c4, c5]).take (Try.prog.cellsOf 3)) = some y := hf 3 _ rfl
  rw [z3] at f3
  have f4 : ∃ y, DataW.trod enc Try.prog w base spare held n 3 ((List.drop 4 [c0, c1, c2, c3, c4, c5]).take (Try.prog.cellsOf 3)) = some y := hf 4 _ rfl
  rw [z3] at f4
  have f5 : ∃ y, DataW.trod enc Try.prog w base spare held n 3 ((List.drop 5 [c0, c1, c2, c3, c4, c5]).take (Try.prog.cellsOf 3)) = some y := hf 5 _ rfl
  rw [z3] at f5
  exact ⟨n, c0, c1, c2, c3, c4, c5, rfl, f0, f1, f2, f3, f4, f5⟩
theorem rdF53 (h : DataW.trod enc Try.prog w base spare held fuel 53 cs = some x) : ∃ n c0 c1 c2 c3 c4 c5, cs = [c0, c1, c2, c3, c4, c5] ∧ (∃ y, DataW.trod enc Try.prog w base spare held n 3 [c0] = some y) ∧ (∃ y, DataW.trod enc Try.prog w base spare held n 3 [c1] = some y) ∧ (∃ y, DataW.trod enc Try.prog w base spare held n 42 [c2] = some y) ∧ (∃ y, DataW.trod enc Try.prog w base spare held n 51 [c3] = some y) ∧ (∃ y, DataW.trod enc Try.prog w base spare held n 51 [c4] = some y) ∧ (∃ y, DataW.trod enc Try.prog w base spare held n 42 [c5] = some y) := by
  have z3 : Try.prog.cellsOf 3 = 1 := by kernel_rfl
  have z42 : Try.prog.cellsOf 42 = 1 := by kernel_rfl
  have z51 : Try.prog.cellsOf 51 = 1 := by kernel_rfl
  obtain ⟨hl, n, hf⟩ := rd_fields Try.underlying53 h
  have hz : Try.prog.cellsOf 53 = 6 := by kernel_rfl
  rw [hz] at hl
  obtain ⟨c0, c1, c2, c3, c4, c5, rfl⟩ := six_of hl
  have f0 : ∃ y, DataW.trod enc Try.prog w base spare held n 3 ((List.drop 0 [c0, c1, c2, c3, c4, c5]).take (Try.prog.cellsOf 3)) = some y := hf 0 _ rfl
  rw [z3] at f0
  have f1 : ∃ y, DataW.trod enc Try.prog w base spare held n 3 ((List.drop 1 [c0, c1, c2, c3, c4, c5]).take (Try.prog.cellsOf 3)) = some y := hf 1 _ rfl
  rw [z3] at f1
  have f2 : ∃ y, DataW.trod enc Try.prog w base spare held n 42 ((List.drop 2 [c0, c1, c2, c3, c4, c5]).take (Try.prog.cellsOf 42)) = some y := hf 2 _ rfl
  rw [z42] at f2
  have f3 : ∃ y, DataW.trod enc Try.prog w base spare held n 51 ((List.drop 3 [c0, c1, c2, c3, c4, c5]).take (Try.prog.cellsOf 51)) = some y := hf 3 _ rfl
  rw [z51] at f3
  have f4 : ∃ y, DataW.trod enc Try.prog w base spare held n 51 ((List.drop 4 [c0, c1, c2, c3, c4, c5]).take (Try.prog.cellsOf 51)) = some y := hf 4 _ rfl
  rw [z51] at f4
  have f5 : ∃ y, DataW.trod enc Try.prog w base spare held n 42 ((List.drop 5 [c0, c1, c2, c3, c4, c5]).take (Try.prog.cellsOf 42)) = some y := hf 5 _ rfl
  rw [z42] at f5
  exact ⟨n, c0, c1, c2, c3, c4, c5, rfl, f0, f1, f2, f3, f4, f5⟩
theorem rdF54 (h : DataW.trod enc Try.prog w base spare held fuel 54 cs = some x) : ∃ n c0 c1 c2, cs = [c0, c1, c2] ∧ (∃ y, DataW.trod enc Try.prog w base spare held n 5 [c0] = some y) ∧ (∃ y, DataW.trod enc Try.prog w base spare held n 5 [c1] = some y) ∧ (∃ y, DataW.trod enc Try.prog w base spare held n 5 [c2] = some y) := by
  have z5 : Try.prog.cellsOf 5 = 1 := by kernel_rfl
  obtain ⟨hl, n, hf⟩ := rd_elems Try.underlying54 z5 h
  have hz : Try.prog.cellsOf 54 = 3 := by kernel_rfl
  rw [hz] at hl
  obtain ⟨c0, c1, c2, rfl⟩ := three_of hl
  have f0 : ∃ y, DataW.trod enc Try.prog w base spare held n 5 [c0] = some y := hf 0 (by omega)
  have f1 : ∃ y, DataW.trod enc Try.prog w base spare held n 5 [c1] = some y := hf 1 (by omega)
  have f2 : ∃ y, DataW.trod enc Try.prog w base spare held n 5 [c2] = some y := hf 2 (by omega)
  exact ⟨n, c0, c1, c2, rfl, f0, f1, f2⟩
theorem rdF58 (h : DataW.trod enc Try.prog w base spare held fuel 58 cs = some x) : ∃ n c0 c1 c2, cs = [c0, c1, c2] ∧ (∃ y, DataW.trod enc Try.prog w base spare held n 3 [c0] = some y) ∧ (∃ y, DataW.trod enc Try.prog w base spare held n 3 [c1] = some y) ∧ (∃ y, DataW.trod enc Try.prog w base spare held n 3 [c2] = some y) := by
  have z3 : Try.prog.cellsOf 3 = 1 := by kernel_rfl
  obtain ⟨hl, n, hf⟩ := rd_elems Try.underlying58 z3 h
  have hz : Try.prog.cellsOf 58 = 3 := by kernel_rfl
  rw [hz] at hl
  obtain ⟨c0, c1, c2, rfl⟩ := three_of hl
  have f0 : ∃ y, DataW.trod enc Try.prog w base spare held n 3 [c0] = some y := hf 0 (by omega)
  have f1 : ∃ y, DataW.trod enc Try.prog w base spare held n 3 [c1] = some y := hf 1 (by omega)
  have f2 : ∃ y, DataW.trod enc Try.prog w base spare held n 3 [c2] = some y := hf 2 (by omega)
  exact ⟨n, c0, c1, c2, rfl, f0, f1, f2⟩
theorem rdF68 (h : DataW.trod enc Try.prog w base spare held fuel 68 cs = some x) : ∃ n c0 c1 c2, cs = [c0, c1, c2] ∧ (∃ y, DataW.trod enc Try.prog w base spare held n 3 [c0] = some y) ∧ (∃ y, DataW.trod enc Try.prog w base spare held n 3 [c1] = some y) ∧ (∃ y, DataW.trod enc Try.prog w base spare held n 3 [c2] = some y) := by
  have z3 : Try.prog.cellsOf 3 = 1 := by kernel_rfl
  obtain ⟨hl, n, hf⟩ := rd_fields Try.underlying68 h
  have hz : Try.prog.cellsOf 68 = 3 := by kernel_rfl
  rw [hz] at hl
  obtain ⟨c0, c1, c2, rfl⟩ := three_of hl
  have f0 : ∃ y, DataW.trod enc Try.prog w base spare held n 3 ((List.drop 0 [c0, c1, c2]).take (Try.prog.cellsOf 3)) = some y := hf 0 _ rfl
  rw [z3] at f0
  have f1 : ∃ y, DataW.trod enc Try.prog w base spare held n 3 ((List.drop 1 [c0, c1, c2]).take (Try.prog.cellsOf 3)) = some y := hf 1 _ rfl
  rw [z3] at f1
  have f2 : ∃ y, DataW.trod enc Try.prog w base spare held n 3 ((List.drop 2 [c0, c1, c2]).take (Try.prog.cellsOf 3)) = some y := hf 2 _ rfl
  rw [z3] at f2
  exact ⟨n, c0, c1, c2, rfl, f0, f1, f2⟩
theorem rdF76 (h : DataW.trod enc Try.prog w base spare held fuel 76 cs = some x) : ∃ n c0 c1, cs = [c0, c1] ∧ (∃ y, DataW.trod enc Try.prog w base spare held n 5 [c0] = some y) ∧ (∃ y, DataW.trod enc Try.prog w base spare held n 5 [c1] = some y) := by
  have z5 : Try.prog.cellsOf 5 = 1 := by kernel_rfl
  obtain ⟨hl, n, hf⟩ := rd_elems Try.underlying76 z5 h
  have hz : Try.prog.cellsOf 76 = 2 := by kernel_rfl
  rw [hz] at hl
  obtain ⟨c0, c1, rfl⟩ := two_of hl
  have f0 : ∃ y, DataW.trod enc Try.prog w base spare held n 5 [c0] = some y := hf 0 (by omega)
  have f1 : ∃ y, DataW.trod enc Try.prog w base spare held n 5 [c1] = some y := hf 1 (by omega)
  exact ⟨n, c0, c1, rfl, f0, f1⟩
theorem rdF78 (h : DataW.trod enc Try.prog w base spare held fuel 78 cs = some x) : ∃ n c0 c1 c2, cs = [c0, c1, c2] ∧ (∃ y, DataW.trod enc Try.prog w base spare held n 3 [c0] = some y) ∧ (∃ y, DataW.trod enc Try.prog w base spare held n 38 [c1, c2] = some y) := by
  have z3 : Try.prog.cellsOf 3 = 1 := by kernel_rfl
  have z38 : Try.prog.cellsOf 38 = 2 := by kernel_rfl
  obtain ⟨hl, n, hf⟩ := rd_fields Try.underlying78 h
  have hz : Try.prog.cellsOf 78 = 3 := by kernel_rfl
  rw [hz] at hl
  obtain ⟨c0, c1, c2, rfl⟩ := three_of hl
  have f0 : ∃ y, DataW.trod enc Try.prog w base spare held n 3 ((List.drop 0 [c0, c1, c2]).take (Try.prog.cellsOf 3)) = some y := hf 0 _ rfl
  rw [z3] at f0
  have f1 : ∃ y, DataW.trod enc Try.prog w base spare held n 38 ((List.drop 1 [c0, c1, c2]).take (Try.prog.cellsOf 38)) = some y := hf 1 _ rfl
  rw [z38] at f1
  exact ⟨n, c0, c1, c2, rfl, f0, f1⟩
theorem rdF84 (h : DataW.trod enc Try.prog w base spare held fuel 84 cs = some x) : ∃ n c0 c1 c2 c3 c4, cs = [c0, c1, c2, c3, c4] ∧ (∃ y, DataW.trod enc Try.prog w base spare held n 68 [c0, c1, c2] = some y) ∧ (∃ y, DataW.trod enc Try.prog w base spare held n 5 [c3] = some y) ∧ (∃ y, DataW.trod enc Try.prog w base spare held n 5 [c4] = some y) := by
  have z5 : Try.prog.cellsOf 5 = 1 := by kernel_rfl
  have z68 : Try.prog.cellsOf 68 = 3 := by kernel_rfl
  obtain ⟨hl, n, hf⟩ := rd_fields Try.underlying84 h
  have hz : Try.prog.cellsOf 84 = 5 := by kernel_rfl
  rw [hz] at hl
  obtain ⟨c0, c1, c2, c3, c4, rfl⟩ := five_of hl
  have f0 : ∃ y, DataW.trod enc Try.prog w base spare held n 68 ((List.drop 0 [c0, c1, c2, c3, c4]).take (Try.prog.cellsOf 68)) = some y := hf 0 _ rfl
  rw [z68] at f0
  have f1 : ∃ y, DataW.trod enc Try.prog w base spare held n 5 ((List.drop 3 [c0, c1, c2, c3, c4]).take (Try.prog.cellsOf 5)) = some y := hf 1 _ rfl
  rw [z5] at f1
  have f2 : ∃ y, DataW.trod enc Try.prog w base spare held n 5 ((List.drop 4 [c0, c1, c2, c3, c4]).take (Try.prog.cellsOf 5)) = some y := hf 2 _ rfl
  rw [z5] at f2
  exact ⟨n, c0, c1, c2, c3, c4, rfl, f0, f1, f2⟩
theorem rdF86 (h : DataW.trod enc Try.prog w base spare held fuel 86 cs = some x) : ∃ n c0 c1, cs = [c0, c1] ∧ (∃ y, DataW.trod enc Try.prog w base spare held n 3 [c0] = some y) ∧ (∃ y, DataW.trod enc Try.prog w base spare held n 3 [c1] = some y) := by
  have z3 : Try.prog.cellsOf 3 = 1 := by kernel_rfl
  obtain ⟨hl, n, hf⟩ := rd_elems Try.underlying86 z3 h
  have hz : Try.prog.cellsOf 86 = 2 := by kernel_rfl
  rw [hz] at hl
  obtain ⟨c0, c1, rfl⟩ := two_of hl
  have f0 : ∃ y, DataW.trod enc Try.prog w base spare held n 3 [c0] = some y := hf 0 (by omega)
  have f1 : ∃ y, DataW.trod enc Try.prog w base spare held n 3 [c1] = some y := hf 1 (by omega)
  exact ⟨n, c0, c1, rfl, f0, f1⟩
theorem rdF103 (h : DataW.trod enc Try.prog w base spare held fuel 103 cs = some x) : ∃ n c0 c1, cs = [c0, c1] ∧ (∃ y, DataW.trod enc Try.prog w base spare held n 3 [c0] = some y) ∧ (∃ y, DataW.trod enc Try.prog w base spare held n 3 [c1] = some y) := by
  have z3 : Try.prog.cellsOf 3 = 1 := by kernel_rfl
  obtain ⟨hl, n, hf⟩ := rd_fields Try.underlying103 h
  have hz : Try.prog.cellsOf 103 = 2 := by kernel_rfl
  rw [hz] at hl
  obtain ⟨c0, c1, rfl⟩ := two_of hl
  have f0 : ∃ y, DataW.trod enc Try.prog w base spare held n 3 ((List.drop 0 [c0, c1]).take (Try.prog.cellsOf 3)) = some y := hf 0 _ rfl
  rw [z3] at f0
  have f1 : ∃ y, DataW.trod enc Try.prog w base spare held n 3 ((List.drop 1 [c0, c1]).take (Try.prog.cellsOf 3)) = some y := hf 1 _ rfl
  rw [z3] at f1
  exact ⟨n, c0, c1, rfl, f0, f1⟩
end
end Go.Proofs.Ytpgmehignepidaa
