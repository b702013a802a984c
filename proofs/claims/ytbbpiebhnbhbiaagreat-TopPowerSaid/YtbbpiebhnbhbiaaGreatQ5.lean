/- Merged texts, part 5. -/
import Derived.Test.YtbbpiebhnbhbiaaGreatQ4
import Derived.Test.YtbbpiebhnbhbiaaGreatProg
set_option linter.all false
set_option maxHeartbeats 8000000
namespace Go.Proofs.YtbbpiebhnbhbiaaGreat
open Go Bx
abbrev FdQ {H : Type} (enc : TypeId × Value → H) (w : World) (base : Nat) (spare : Nat → Bool) (held : Bool) (n : Nat) (ft : TypeId) (cs : List Value) : Prop := ∃ y, DataW.trod enc Tryz.prog w base spare held n ft cs = some y ∧ WOk Tryz.prog ft y.1
theorem rdQ {H : Type} {enc : TypeId × Value → H} {w : World} {base : Nat} {spare : Nat → Bool} {held : Bool} {n k : Nat} {ft : TypeId} {cs : List Value} (hz : Tryz.prog.cellsOf ft = k) (h : ∃ y, DataW.trod enc Tryz.prog w base spare held n ft (cs.take (Tryz.prog.cellsOf ft)) = some y ∧ WOk Tryz.prog ft y.1) : FdQ enc w base spare held n ft (cs.take k) := by rw [hz] at h; exact h
section
variable {H : Type} {enc : TypeId × Value → H} {w : World} {base : Nat} {spare : Nat → Bool} {held : Bool} {fuel : Nat} {cs : List Value} {x : DataW H × List MemPlace}
theorem rdLen1_of {cs : List Value} (h : cs.length = 1) : ∃ c0, cs = [c0] := by
 match cs, h with
 | [c0], _ => exact ⟨c0, rfl⟩
theorem rdF24 (h : DataW.trod enc Tryz.prog w base spare held fuel 24 cs = some x) (hW : WOk Tryz.prog 24 x.1) : ∃ n c0, cs = [c0] ∧ FdQ enc w base spare held n 22 [c0] := by
 have z22 : Tryz.prog.cellsOf 22 = 1 := by kernel_rfl
 obtain ⟨hl, n, hf⟩ := rdw_fields Tryz.underlying24 h hW
 have hz : Tryz.prog.cellsOf 24 = 1 := by kernel_rfl
 rw [hz] at hl
 obtain ⟨c0, rfl⟩ := rdLen1_of hl
 exact ⟨n, c0, rfl, rdQ z22 (hf 0 _ rfl)⟩
theorem rdLen21_of {cs : List Value} (h : cs.length = 21) : ∃ c0 c1 c2 c3 c4 c5 c6 c7 c8 c9 c10 c11 c12 c13 c14 c15 c16 c17 c18 c19 c20, cs = [c0, c1, c2, c3, c4, c5, c6, c7, c8, c9, c10, c11, c12, c13, c14, c15, c16, c17, c18, c19, c20] := by
 match cs, h with
 | [c0, c1, c2, c3, c4, c5, c6, c7, c8, c9, c10, c11, c12, c13, c14, c15, c16, c17, c18, c19, c20], _ => exact ⟨c0, c1, c2, c3, c4, c5, c6, c7, c8, c9, c10, c11, c12, c13, c14, c15, c16, c17, c18, c19, c20, rfl⟩
theorem rdF29 (h : DataW.trod enc Tryz.prog w base spare held fuel 29 cs = some x) (hW : WOk Tryz.prog 29 x.1) : ∃ n c0 c1 c2 c3 c4 c5 c6 c7 c8 c9 c10 c11 c12 c13 c14 c15 c16 c17 c18 c19 c20, cs = [c0, c1, c2, c3, c4, c5, c6, c7, c8, c9, c10, c11, c12, c13, c14, c15, c16, c17, c18, c19, c20] ∧ FdQ enc w base spare held n 9 [c0] ∧ FdQ enc w base spare held n 3 [c1] ∧ FdQ enc w base spare held n 3 [c2] ∧ FdQ enc w base spare held n 26 [c3] ∧ FdQ enc w base spare held n 3 [c4] ∧ FdQ enc w base spare held n 3 [c5] ∧ FdQ enc w base spare held n 3 [c6] ∧ FdQ enc w base spare held n 3 [c7] ∧ FdQ enc w base spare held n 3 [c8] ∧ FdQ enc w base spare held n 3 [c9] ∧ FdQ enc w base spare held n 3 [c10] ∧ FdQ enc w base spare held n 3 [c11] ∧ FdQ enc w base spare held n 3 [c12] ∧ FdQ enc w base spare held n 3 [c13] ∧ FdQ enc w base spare held n 3 [c14] ∧ FdQ enc w base spare held n 3 [c15] ∧ FdQ enc w base spare held n 3 [c16] ∧ FdQ enc w base spare held n 3 [c17] ∧ FdQ enc w base spare held n 3 [c18] ∧ FdQ enc w base spare held n 27 [c19] ∧ FdQ enc w base spare held n 3 [c20] := by
 have z3 : Tryz.prog.cellsOf 3 = 1 := by kernel_rfl
 have z9 : Tryz.prog.cellsOf 9 = 1 := by kernel_rfl
 have z26 : Tryz.prog.cellsOf 26 = 1 := by kernel_rfl
 have z27 : Tryz.prog.cellsOf 27 = 1 := by kernel_rfl
 obtain ⟨hl, n, hf⟩ := rdw_fields Tryz.underlying29 h hW
 have hz : Tryz.prog.cellsOf 29 = 21 := by kernel_rfl
 rw [hz] at hl
 obtain ⟨c0, c1, c2, c3, c4, c5, c6, c7, c8, c9, c10, c11, c12, c13, c14, c15, c16, c17, c18, c19, c20, rfl⟩ := rdLen21_of hl
 exact ⟨n, c0, c1, c2, c3, c4, c5, c6, c7, c8, c9, c10, c11, c12, c13, c14, c15, c16, c17, c18, c19, c20, rfl, rdQ z9 (hf 0 _ rfl), rdQ z3 (hf 1 _ rfl), rdQ z3 (hf 2 _ rfl), rdQ z26 (hf 3 _ rfl), rdQ z3 (hf 4 _ rfl), rdQ z3 (hf 5 _ rfl), rdQ z3 (hf 6 _ rfl), rdQ z3 (hf 7 _ rfl), rdQ z3 (hf 8 _ rfl), rdQ z3 (hf 9 _ rfl), rdQ z3 (hf 10 _ rfl), rdQ z3 (hf 11 _ rfl), rdQ z3 (hf 12 _ rfl), rdQ z3 (hf 13 _ rfl), rdQ z3 (hf 14 _ rfl), rdQ z3 (hf 15 _ rfl), rdQ z3 (hf 16 _ rfl), rdQ z3 (hf 17 _ rfl), rdQ z3 (hf 18 _ rfl), rdQ z27 (hf 19 _ rfl), rdQ z3 (hf 20 _ rfl)⟩
theorem rdF31 (h : DataW.trod enc Tryz.prog w base spare held fuel 31 cs = some x) (hW : WOk Tryz.prog 31 x.1) : ∃ n c0 c1 c2, cs = [c0, c1, c2] ∧ FdQ enc w base spare held n 3 [c0] ∧ FdQ enc w base spare held n 3 [c1] ∧ FdQ enc w base spare held n 4 [c2] := by
 have z3 : Tryz.prog.cellsOf 3 = 1 := by kernel_rfl
 have z4 : Tryz.prog.cellsOf 4 = 1 := by kernel_rfl
 obtain ⟨hl, n, hf⟩ := rdw_fields Tryz.underlying31 h hW
 have hz : Tryz.prog.cellsOf 31 = 3 := by kernel_rfl
 rw [hz] at hl
 obtain ⟨c0, c1, c2, rfl⟩ := three_of hl
 exact ⟨n, c0, c1, c2, rfl, rdQ z3 (hf 0 _ rfl), rdQ z3 (hf 1 _ rfl), rdQ z4 (hf 2 _ rfl)⟩
theorem rdLen30_of {cs : List Value} (h : cs.length = 30) : ∃ c0 c1 c2 c3 c4 c5 c6 c7 c8 c9 c10 c11 c12 c13 c14 c15 c16 c17 c18 c19 c20 c21 c22 c23 c24 c25 c26 c27 c28 c29, cs = [c0, c1, c2, c3, c4, c5, c6, c7, c8, c9, c10, c11, c12, c13, c14, c15, c16, c17, c18, c19, c20, c21, c22, c23, c24, c25, c26, c27, c28, c29] := by
 match cs, h with
 | [c0, c1, c2, c3, c4, c5, c6, c7, c8, c9, c10, c11, c12, c13, c14, c15, c16, c17, c18, c19, c20, c21, c22, c23, c24, c25, c26, c27, c28, c29], _ => exact ⟨c0, c1, c2, c3, c4, c5, c6, c7, c8, c9, c10, c11, c12, c13, c14, c15, c16, c17, c18, c19, c20, c21, c22, c23, c24, c25, c26, c27, c28, c29, rfl⟩
theorem rdF33 (h : DataW.trod enc Tryz.prog w base spare held fuel 33 cs = some x) (hW : WOk Tryz.prog 33 x.1) : ∃ n c0 c1 c2 c3 c4 c5 c6 c7 c8 c9 c10 c11 c12 c13 c14 c15 c16 c17 c18 c19 c20 c21 c22 c23 c24 c25 c26 c27 c28 c29, cs = [c0, c1, c2, c3, c4, c5, c6, c7, c8, c9, c10, c11, c12, c13, c14, c15, c16, c17, c18, c19, c20, c21, c22, c23, c24, c25, c26, c27, c28, c29] ∧ FdQ enc w base spare held n 24 [c0] ∧ FdQ enc w base spare held n 25 [c1] ∧ FdQ enc w base spare held n 3 [c2] ∧ FdQ enc w base spare held n 26 [c3] ∧ FdQ enc w base spare held n 29 [c4, c5, c6, c7, c8, c9, c10, c11, c12, c13, c14, c15, c16, c17, c18, c19, c20, c21, c22, c23, c24] ∧ FdQ enc w base spare held n 31 [c25, c26, c27] ∧ FdQ enc w base spare held n 3 [c28] ∧ FdQ enc w base spare held n 3 [c29] := by
 have z3 : Tryz.prog.cellsOf 3 = 1 := by kernel_rfl
 have z24 : Tryz.prog.cellsOf 24 = 1 := by kernel_rfl
 have z25 : Tryz.prog.cellsOf 25 = 1 := by kernel_rfl
 have z26 : Tryz.prog.cellsOf 26 = 1 := by kernel_rfl
 have z29 : Tryz.prog.cellsOf 29 = 21 := by kernel_rfl
 have z31 : Tryz.prog.cellsOf 31 = 3 := by kernel_rfl
 obtain ⟨hl, n, hf⟩ := rdw_fields Tryz.underlying33 h hW
 have hz : Tryz.prog.cellsOf 33 = 30 := by kernel_rfl
 rw [hz] at hl
 obtain ⟨c0, c1, c2, c3, c4, c5, c6, c7, c8, c9, c10, c11, c12, c13, c14, c15, c16, c17, c18, c19, c20, c21, c22, c23, c24, c25, c26, c27, c28, c29, rfl⟩ := rdLen30_of hl
 exact ⟨n, c0, c1, c2, c3, c4, c5, c6, c7, c8, c9, c10, c11, c12, c13, c14, c15, c16, c17, c18, c19, c20, c21, c22, c23, c24, c25, c26, c27, c28, c29, rfl, rdQ z24 (hf 0 _ rfl), rdQ z25 (hf 1 _ rfl), rdQ z3 (hf 2 _ rfl), rdQ z26 (hf 3 _ rfl), rdQ z29 (hf 4 _ rfl), rdQ z31 (hf 5 _ rfl), rdQ z3 (hf 6 _ rfl), rdQ z3 (hf 7 _ rfl)⟩
theorem rdF35 (h : DataW.trod enc Tryz.prog w base spare held fuel 35 cs = some x) (hW : WOk Tryz.prog 35 x.1) : ∃ n c0 c1 c2, cs = [c0, c1, c2] ∧ FdQ enc w base spare held n 3 [c0] ∧ FdQ enc w base spare held n 3 [c1] ∧ FdQ enc w base spare held n 3 [c2] := by
 have z3 : Tryz.prog.cellsOf 3 = 1 := by kernel_rfl
 obtain ⟨hl, n, hf⟩ := rdw_fields Tryz.underlying35 h hW
 have hz : Tryz.prog.cellsOf 35 = 3 := by kernel_rfl
 rw [hz] at hl
 obtain ⟨c0, c1, c2, rfl⟩ := three_of hl
 exact ⟨n, c0, c1, c2, rfl, rdQ z3 (hf 0 _ rfl), rdQ z3 (hf 1 _ rfl), rdQ z3 (hf 2 _ rfl)⟩
theorem rdF96 (h : DataW.trod enc Tryz.prog w base spare held fuel 96 cs = some x) (hW : WOk Tryz.prog 96 x.1) : ∃ n c0 c1 c2 c3 c4, cs = [c0, c1, c2, c3, c4] ∧ FdQ enc w base spare held n 9 [c0] ∧ FdQ enc w base spare held n 3 [c1] ∧ FdQ enc w base spare held n 26 [c2] ∧ FdQ enc w base spare held n 3 [c3] ∧ FdQ enc w base spare held n 3 [c4] := by
 have z3 : Tryz.prog.cellsOf 3 = 1 := by kernel_rfl
 have z9 : Tryz.prog.cellsOf 9 = 1 := by kernel_rfl
 have z26 : Tryz.prog.cellsOf 26 = 1 := by kernel_rfl
 obtain ⟨hl, n, hf⟩ := rdw_fields Tryz.underlying96 h hW
 have hz : Tryz.prog.cellsOf 96 = 5 := by kernel_rfl
 rw [hz] at hl
 obtain ⟨c0, c1, c2, c3, c4, rfl⟩ := five_of hl
 exact ⟨n, c0, c1, c2, c3, c4, rfl, rdQ z9 (hf 0 _ rfl), rdQ z3 (hf 1 _ rfl), rdQ z26 (hf 2 _ rfl), rdQ z3 (hf 3 _ rfl), rdQ z3 (hf 4 _ rfl)⟩
theorem rdF121 (h : DataW.trod enc Tryz.prog w base spare held fuel 121 cs = some x) (hW : WOk Tryz.prog 121 x.1) : ∃ n c0 c1 c2, cs = [c0, c1, c2] ∧ FdQ enc w base spare held n 3 [c0] ∧ FdQ enc w base spare held n 3 [c1] ∧ FdQ enc w base spare held n 3 [c2] := by
 have z3 : Tryz.prog.cellsOf 3 = 1 := by kernel_rfl
 obtain ⟨hl, n, hf⟩ := rdw_fields Tryz.underlying121 h hW
 have hz : Tryz.prog.cellsOf 121 = 3 := by kernel_rfl
 rw [hz] at hl
 obtain ⟨c0, c1, c2, rfl⟩ := three_of hl
 exact ⟨n, c0, c1, c2, rfl, rdQ z3 (hf 0 _ rfl), rdQ z3 (hf 1 _ rfl), rdQ z3 (hf 2 _ rfl)⟩
end
theorem rd_Ints : RdW Tryz.prog 26 (fun w cs (l : List Int) => ∃ v, cs = [v] ∧ Sl w 1 RInt v l ∧ l.length * 8 ≤ 140737488351232) := rdw_slice (Rd.w (rd_int Tryz.underlying3)) (by kernel_rfl) (by decide) Tryz.underlying26 (by kernel_rfl)
theorem rd_Nod : RdW Tryz.prog 96 RNod := by
 intro H enc w base spare held fuel cs x h hW
 obtain ⟨n, c0, c1, c2, c3, c4, rfl, ⟨y0, f0, k0⟩, ⟨y1, f1, k1⟩, ⟨y2, f2, k2⟩, ⟨y3, f3, k3⟩, ⟨y4, f4, k4⟩⟩ := rdF96 h hW
 obtain ⟨a0, g0⟩ := (Rd.w (rd_str Tryz.underlying9)) _ _ _ _ _ _ _ _ _ f0 k0
 obtain ⟨a1, g1⟩ := (Rd.w (rd_int Tryz.underlying3)) _ _ _ _ _ _ _ _ _ f1 k1
 obtain ⟨a2, g2⟩ := rd_Ints _ _ _ _ _ _ _ _ _ f2 k2
 obtain ⟨a3, g3⟩ := (Rd.w (rd_int Tryz.underlying3)) _ _ _ _ _ _ _ _ _ f3 k3
 obtain ⟨a4, g4⟩ := (Rd.w (rd_int Tryz.underlying3)) _ _ _ _ _ _ _ _ _ f4 k4
 obtain ⟨e0, i0⟩ := g0; obtain ⟨e1, i1⟩ := g1; obtain ⟨e3, i3⟩ := g3; obtain ⟨e4, i4⟩ := g4; obtain ⟨v2, e2, i2, r2⟩ := g2; cases e0; cases e1; cases e2; cases e3; cases e4; exact ⟨⟨a0, a1, a2, a3, a4⟩, _, rfl, i0, i2⟩
theorem rd_Nods : RdW Tryz.prog 22 (fun w cs (l : List Nod) => ∃ v, cs = [v] ∧ Sl w 5 RNod v l ∧ l.length * 64 ≤ 140737488351232) := rdw_slice rd_Nod (by kernel_rfl) (by decide) Tryz.underlying22 (by kernel_rfl)
theorem rd_Tre : RdW Tryz.prog 24 (fun w cs (l : List Nod) => ∃ v, cs = [v] ∧ Sl w 5 RNod v l) := by
 intro H enc w base spare held fuel cs x h hW
 obtain ⟨n, c0, rfl, ⟨y0, f0, k0⟩⟩ := rdF24 h hW
 obtain ⟨a0, g0⟩ := rd_Nods _ _ _ _ _ _ _ _ _ f0 k0
 obtain ⟨v0, e0, i0, r0⟩ := g0; exact ⟨a0, v0, e0, i0⟩
theorem rd_Fsp : RdW Tryz.prog 35 RFsp := by
 intro H enc w base spare held fuel cs x h hW
 obtain ⟨n, c0, c1, c2, rfl, ⟨y0, f0, k0⟩, ⟨y1, f1, k1⟩, ⟨y2, f2, k2⟩⟩ := rdF35 h hW
 obtain ⟨a0, g0⟩ := (Rd.w (rd_int Tryz.underlying3)) _ _ _ _ _ _ _ _ _ f0 k0
 obtain ⟨a1, g1⟩ := (Rd.w (rd_int Tryz.underlying3)) _ _ _ _ _ _ _ _ _ f1 k1
 obtain ⟨a2, g2⟩ := (Rd.w (rd_int Tryz.underlying3)) _ _ _ _ _ _ _ _ _ f2 k2
 obtain ⟨e0, i0⟩ := g0; obtain ⟨e1, i1⟩ := g1; obtain ⟨e2, i2⟩ := g2; cases e0; cases e1; cases e2; exact ⟨⟨a0, a1, a2⟩, rfl, i0, i1, i2⟩
theorem rd_Fsps : RdW Tryz.prog 25 (fun w cs (l : List FSp) => ∃ v, cs = [v] ∧ Sl w 3 RFsp v l ∧ l.length * 24 ≤ 140737488351232) := rdw_slice rd_Fsp (by kernel_rfl) (by decide) Tryz.underlying25 (by kernel_rfl)
theorem rd_Sen : RdW Tryz.prog 121 RSen := by
 intro H enc w base spare held fuel cs x h hW
 obtain ⟨n, c0, c1, c2, rfl, ⟨y0, f0, k0⟩, ⟨y1, f1, k1⟩, ⟨y2, f2, k2⟩⟩ := rdF121 h hW
 obtain ⟨a0, g0⟩ := (Rd.w (rd_int Tryz.underlying3)) _ _ _ _ _ _ _ _ _ f0 k0
 obtain ⟨a1, g1⟩ := (Rd.w (rd_int Tryz.underlying3)) _ _ _ _ _ _ _ _ _ f1 k1
 obtain ⟨a2, g2⟩ := (Rd.w (rd_int Tryz.underlying3)) _ _ _ _ _ _ _ _ _ f2 k2
 obtain ⟨e0, i0⟩ := g0; obtain ⟨e1, i1⟩ := g1; obtain ⟨e2, i2⟩ := g2; cases e0; cases e1; cases e2; exact ⟨⟨a0, a1, a2⟩, rfl, i0, i1, i2⟩
theorem rd_Sens : RdW Tryz.prog 27 (fun w cs (l : List Sen) => ∃ v, cs = [v] ∧ Sl w 3 RSen v l ∧ l.length * 24 ≤ 140737488351232) := rdw_slice rd_Sen (by kernel_rfl) (by decide) Tryz.underlying27 (by kernel_rfl)
theorem rd_Gat : RdW Tryz.prog 29 RGat := by
 intro H enc w base spare held fuel cs x h hW
 obtain ⟨n, c0, c1, c2, c3, c4, c5, c6, c7, c8, c9, c10, c11, c12, c13, c14, c15, c16, c17, c18, c19, c20, rfl, ⟨y0, f0, k0⟩, ⟨y1, f1, k1⟩, ⟨y2, f2, k2⟩, ⟨y3, f3, k3⟩, ⟨y4, f4, k4⟩, ⟨y5, f5, k5⟩, ⟨y6, f6, k6⟩, ⟨y7, f7, k7⟩, ⟨y8, f8, k8⟩, ⟨y9, f9, k9⟩, ⟨y10, f10, k10⟩, ⟨y11, f11, k11⟩, ⟨y12, f12, k12⟩, ⟨y13, f13, k13⟩, ⟨y14, f14, k14⟩, ⟨y15, f15, k15⟩, ⟨y16, f16, k16⟩, ⟨y17, f17, k17⟩, ⟨y18, f18, k18⟩, ⟨y19, f19, k19⟩, ⟨y20, f20, k20⟩⟩ := rdF29 h hW
 obtain ⟨a0, g0⟩ := (Rd.w (rd_str Tryz.underlying9)) _ _ _ _ _ _ _ _ _ f0 k0
 obtain ⟨a1, g1⟩ := (Rd.w (rd_int Tryz.underlying3)) _ _ _ _ _ _ _ _ _ f1 k1
 obtain ⟨a2, g2⟩ := (Rd.w (rd_int Tryz.underlying3)) _ _ _ _ _ _ _ _ _ f2 k2
 obtain ⟨a3, g3⟩ := rd_Ints _ _ _ _ _ _ _ _ _ f3 k3
 obtain ⟨a4, g4⟩ := (Rd.w (rd_int Tryz.underlying3)) _ _ _ _ _ _ _ _ _ f4 k4
 obtain ⟨a5, g5⟩ := (Rd.w (rd_int Tryz.underlying3)) _ _ _ _ _ _ _ _ _ f5 k5
 obtain ⟨a6, g6⟩ := (Rd.w (rd_int Tryz.underlying3)) _ _ _ _ _ _ _ _ _ f6 k6
 obtain ⟨a7, g7⟩ := (Rd.w (rd_int Tryz.underlying3)) _ _ _ _ _ _ _ _ _ f7 k7
 obtain ⟨a8, g8⟩ := (Rd.w (rd_int Tryz.underlying3)) _ _ _ _ _ _ _ _ _ f8 k8
 obtain ⟨a9, g9⟩ := (Rd.w (rd_int Tryz.underlying3)) _ _ _ _ _ _ _ _ _ f9 k9
 obtain ⟨a10, g10⟩ := (Rd.w (rd_int Tryz.underlying3)) _ _ _ _ _ _ _ _ _ f10 k10
 obtain ⟨a11, g11⟩ := (Rd.w (rd_int Tryz.underlying3)) _ _ _ _ _ _ _ _ _ f11 k11
 obtain ⟨a12, g12⟩ := (Rd.w (rd_int Tryz.underlying3)) _ _ _ _ _ _ _ _ _ f12 k12
 obtain ⟨a13, g13⟩ := (Rd.w (rd_int Tryz.underlying3)) _ _ _ _ _ _ _ _ _ f13 k13
 obtain ⟨a14, g14⟩ := (Rd.w (rd_int Tryz.underlying3)) _ _ _ _ _ _ _ _ _ f14 k14
 obtain ⟨a15, g15⟩ := (Rd.w (rd_int Tryz.underlying3)) _ _ _ _ _ _ _ _ _ f15 k15
 obtain ⟨a16, g16⟩ := (Rd.w (rd_int Tryz.underlying3)) _ _ _ _ _ _ _ _ _ f16 k16
 obtain ⟨a17, g17⟩ := (Rd.w (rd_int Tryz.underlying3)) _ _ _ _ _ _ _ _ _ f17 k17
 obtain ⟨a18, g18⟩ := (Rd.w (rd_int Tryz.underlying3)) _ _ _ _ _ _ _ _ _ f18 k18
 obtain ⟨a19, g19⟩ := rd_Sens _ _ _ _ _ _ _ _ _ f19 k19
 obtain ⟨a20, g20⟩ := (Rd.w (rd_int Tryz.underlying3)) _ _ _ _ _ _ _ _ _ f20 k20
 obtain ⟨e0, i0⟩ := g0; obtain ⟨e1, i1⟩ := g1; obtain ⟨e2, i2⟩ := g2; obtain ⟨e4, i4⟩ := g4; obtain ⟨e5, i5⟩ := g5; obtain ⟨e6, i6⟩ := g6; obtain ⟨e7, i7⟩ := g7; obtain ⟨e8, i8⟩ := g8; obtain ⟨e9, i9⟩ := g9; obtain ⟨e10, i10⟩ := g10; obtain ⟨e11, i11⟩ := g11; obtain ⟨e12, i12⟩ := g12; obtain ⟨e13, i13⟩ := g13; obtain ⟨e14, i14⟩ := g14; obtain ⟨e15, i15⟩ := g15; obtain ⟨e16, i16⟩ := g16; obtain ⟨e17, i17⟩ := g17; obtain ⟨e18, i18⟩ := g18; obtain ⟨e20, i20⟩ := g20; obtain ⟨v3, e3, i3, r3⟩ := g3; obtain ⟨v19, e19, i19, r19⟩ := g19; cases e0; cases e1; cases e2; cases e3; cases e4; cases e5; cases e6; cases e7; cases e8; cases e9; cases e10; cases e11; cases e12; cases e13; cases e14; cases e15; cases e16; cases e17; cases e18; cases e19; cases e20; exact ⟨⟨a0, a1, a2, a3, a4, a5, a6, a7, a8, a9, a10, a11, a12, a13, a14, a15, a16, a17, a18, a19, a20⟩, _, _, rfl, i0, i3, i19, i7, i9, i10, i11, i12, i15, i16, i17, i18, i20⟩
theorem rd_Gst : RdW Tryz.prog 31 (fun _ cs (s : GSt) => cs = gstC s) := by
 intro H enc w base spare held fuel cs x h hW
 obtain ⟨n, c0, c1, c2, rfl, ⟨y0, f0, k0⟩, ⟨y1, f1, k1⟩, ⟨y2, f2, k2⟩⟩ := rdF31 h hW
 obtain ⟨a0, g0⟩ := (Rd.w (rd_int Tryz.underlying3)) _ _ _ _ _ _ _ _ _ f0 k0
 obtain ⟨a1, g1⟩ := (Rd.w (rd_int Tryz.underlying3)) _ _ _ _ _ _ _ _ _ f1 k1
 obtain ⟨a2, g2⟩ := (Rd.w (rd_bool Tryz.underlying4)) _ _ _ _ _ _ _ _ _ f2 k2
 obtain ⟨e0, i0⟩ := g0; obtain ⟨e1, i1⟩ := g1; have e2 : [c2] = [Value.bool a2] := g2; cases e0; cases e1; cases e2; exact ⟨⟨a0, a1, a2⟩, rfl⟩
theorem rd_Pwr : RdW Tryz.prog 33 RPwr := by
 intro H enc w base spare held fuel cs x h hW
 obtain ⟨n, c0, c1, c2, c3, c4, c5, c6, c7, c8, c9, c10, c11, c12, c13, c14, c15, c16, c17, c18, c19, c20, c21, c22, c23, c24, c25, c26, c27, c28, c29, rfl, ⟨y0, f0, k0⟩, ⟨y1, f1, k1⟩, ⟨y2, f2, k2⟩, ⟨y3, f3, k3⟩, ⟨y4, f4, k4⟩, ⟨y5, f5, k5⟩, ⟨y6, f6, k6⟩, ⟨y7, f7, k7⟩⟩ := rdF33 h hW
 obtain ⟨a0, g0⟩ := rd_Tre _ _ _ _ _ _ _ _ _ f0 k0
 obtain ⟨a1, g1⟩ := rd_Fsps _ _ _ _ _ _ _ _ _ f1 k1
 obtain ⟨a2, g2⟩ := (Rd.w (rd_int Tryz.underlying3)) _ _ _ _ _ _ _ _ _ f2 k2
 obtain ⟨a3, g3⟩ := rd_Ints _ _ _ _ _ _ _ _ _ f3 k3
 obtain ⟨a4, g4⟩ := rd_Gat _ _ _ _ _ _ _ _ _ f4 k4
 obtain ⟨a5, g5⟩ := rd_Gst _ _ _ _ _ _ _ _ _ f5 k5
 obtain ⟨a6, g6⟩ := (Rd.w (rd_int Tryz.underlying3)) _ _ _ _ _ _ _ _ _ f6 k6
 obtain ⟨a7, g7⟩ := (Rd.w (rd_int Tryz.underlying3)) _ _ _ _ _ _ _ _ _ f7 k7
 obtain ⟨v0, e0, i0⟩ := g0; obtain ⟨v1, e1, i1, r1⟩ := g1; obtain ⟨e2, i2⟩ := g2; obtain ⟨e6, i6⟩ := g6; obtain ⟨e7, i7⟩ := g7; obtain ⟨v3, e3, i3, r3⟩ := g3; obtain ⟨o4, s4, e4, i4⟩ := g4; have e5 : [c25, c26, c27] = [.int .i64 a5.pos, .int .i64 a5.charge, .bool a5.bolted] := g5; cases e0; cases e1; cases e2; cases e3; cases e4; cases e5; cases e6; cases e7; exact ⟨⟨a0, a1, a2, a3, a4, a5, a6, a7⟩, _, _, _, _, _, rfl, i0, i1, i3, i4, i2, r1⟩
end Go.Proofs.YtbbpiebhnbhbiaaGreat
