/- Walks, part Rd1. -/
import Derived.Test.YtpgmehignepidaaRdF
import Derived.Test.YtpgmehignepidaaP8
set_option linter.all false
namespace Go.Proofs.Ytpgmehignepidaa
open Go Bx
theorem rd_Ints : Rd Try.prog 44 (fun w cs (l : List Int) => ∃ v, cs = [v] ∧ Sl w 1 RInt v l) := rd_slice (rd_int Try.underlying3) (by kernel_rfl) (by decide) Try.underlying44
theorem rd_Span : Rd Try.prog 38 RSpan := by
  intro H enc w base spare held fuel cs x h
  obtain ⟨n, c0, c1, rfl, ⟨y0, f0⟩, ⟨y1, f1⟩⟩ := rdF38 h
  obtain ⟨a0, g0⟩ := (rd_int Try.underlying3) _ _ _ _ _ _ _ _ _ f0
  obtain ⟨a1, g1⟩ := (rd_int Try.underlying3) _ _ _ _ _ _ _ _ _ f1
  obtain ⟨e0, i0⟩ := g0; obtain ⟨e1, i1⟩ := g1; cases e0; cases e1; exact ⟨⟨a0, a1⟩, rfl, i0, i1⟩
theorem rd_Spans : Rd Try.prog 61 (fun w cs (l : List Span) => ∃ v, cs = [v] ∧ Sl w 2 RSpan v l) := rd_slice rd_Span (by kernel_rfl) (by decide) Try.underlying61
theorem rd_Reading : Rd Try.prog 103 RRead := by
  intro H enc w base spare held fuel cs x h
  obtain ⟨n, c0, c1, rfl, ⟨y0, f0⟩, ⟨y1, f1⟩⟩ := rdF103 h
  obtain ⟨a0, g0⟩ := (rd_int Try.underlying3) _ _ _ _ _ _ _ _ _ f0
  obtain ⟨a1, g1⟩ := (rd_int Try.underlying3) _ _ _ _ _ _ _ _ _ f1
  obtain ⟨e0, i0⟩ := g0; obtain ⟨e1, i1⟩ := g1; cases e0; cases e1; exact ⟨⟨a0, a1⟩, rfl, i0, i1⟩
theorem rd_Datum : Rd Try.prog 78 RDatum := by
  intro H enc w base spare held fuel cs x h
  obtain ⟨n, c0, c1, c2, rfl, ⟨y0, f0⟩, ⟨y1, f1⟩⟩ := rdF78 h
  obtain ⟨a0, g0⟩ := (rd_int Try.underlying3) _ _ _ _ _ _ _ _ _ f0
  obtain ⟨a1, g1⟩ := rd_Span _ _ _ _ _ _ _ _ _ f1
  obtain ⟨e0, i0⟩ := g0; obtain ⟨e1, i1, i2⟩ := g1; cases e0; cases e1; exact ⟨⟨a0, a1⟩, rfl, i0, i1, i2⟩
theorem rd_Datums : Rd Try.prog 31 (fun w cs (l : List Datum) => ∃ v, cs = [v] ∧ Sl w 3 RDatum v l) := rd_slice rd_Datum (by kernel_rfl) (by decide) Try.underlying31
theorem rd_Readings : Rd Try.prog 32 (fun w cs (l : List Reading) => ∃ v, cs = [v] ∧ Sl w 2 RRead v l) := rd_slice rd_Reading (by kernel_rfl) (by decide) Try.underlying32
theorem rd_Gauge : Rd Try.prog 34 RGauge := by
  intro H enc w base spare held fuel cs x h
  obtain ⟨n, c0, c1, c2, c3, c4, rfl, ⟨y0, f0⟩, ⟨y1, f1⟩, ⟨y2, f2⟩, ⟨y3, f3⟩, ⟨y4, f4⟩⟩ := rdF34 h
  obtain ⟨a0, g0⟩ := (rd_str Try.underlying9) _ _ _ _ _ _ _ _ _ f0
  obtain ⟨a1, g1⟩ := (rd_int Try.underlying3) _ _ _ _ _ _ _ _ _ f1
  obtain ⟨a2, g2⟩ := (rd_int Try.underlying3) _ _ _ _ _ _ _ _ _ f2
  obtain ⟨a3, g3⟩ := rd_Datums _ _ _ _ _ _ _ _ _ f3
  obtain ⟨a4, g4⟩ := rd_Readings _ _ _ _ _ _ _ _ _ f4
  obtain ⟨e0, i0⟩ := g0; obtain ⟨e1, i1⟩ := g1; obtain ⟨e2, i2⟩ := g2; obtain ⟨v3, e3, i3⟩ := g3; obtain ⟨v4, e4, i4⟩ := g4; cases e0; cases e1; cases e2; cases e3; cases e4; exact ⟨⟨a0, a1, a2, a3, a4⟩, _, _, rfl, i0, i1, i2, i3, i4⟩
theorem rd_Gauges : Rd Try.prog 66 (fun w cs (l : List Gauge) => ∃ v, cs = [v] ∧ Sl w 5 RGauge v l) := rd_slice rd_Gauge (by kernel_rfl) (by decide) Try.underlying66
theorem rd_Const : Rd Try.prog 46 RConst := by
  intro H enc w base spare held fuel cs x h
  obtain ⟨n, c0, c1, c2, c3, c4, c5, rfl, ⟨y0, f0⟩, ⟨y1, f1⟩, ⟨y2, f2⟩, ⟨y3, f3⟩, ⟨y4, f4⟩, ⟨y5, f5⟩⟩ := rdF46 h
  obtain ⟨a0, g0⟩ := (rd_str Try.underlying9) _ _ _ _ _ _ _ _ _ f0
  obtain ⟨a1, g1⟩ := rd_Ints _ _ _ _ _ _ _ _ _ f1
  obtain ⟨a2, g2⟩ := (rd_int Try.underlying3) _ _ _ _ _ _ _ _ _ f2
  obtain ⟨a3, g3⟩ := (rd_int Try.underlying3) _ _ _ _ _ _ _ _ _ f3
  obtain ⟨a4, g4⟩ := (rd_int Try.underlying3) _ _ _ _ _ _ _ _ _ f4
  obtain ⟨a5, g5⟩ := (rd_int Try.underlying3) _ _ _ _ _ _ _ _ _ f5
  obtain ⟨e0, i0⟩ := g0; obtain ⟨v1, e1, i1⟩ := g1; obtain ⟨e2, i2⟩ := g2; obtain ⟨e3, i3⟩ := g3; obtain ⟨e4, i4⟩ := g4; obtain ⟨e5, i5⟩ := g5; cases e0; cases e1; cases e2; cases e3; cases e4; cases e5; exact ⟨⟨a0, a1, a2, a3, a4, a5⟩, _, rfl, i0, i1, i2, i3, i4, i5⟩
theorem rd_Consts : Rd Try.prog 22 (fun w cs (l : List Const) => ∃ v, cs = [v] ∧ Sl w 6 RConst v l) := rd_slice rd_Const (by kernel_rfl) (by decide) Try.underlying22
theorem rd_Table : Rd Try.prog 24 RTable := by
  intro H enc w base spare held fuel cs x h
  obtain ⟨n, c0, c1, rfl, ⟨y0, f0⟩, ⟨y1, f1⟩⟩ := rdF24 h
  obtain ⟨a0, g0⟩ := (rd_int Try.underlying3) _ _ _ _ _ _ _ _ _ f0
  obtain ⟨a1, g1⟩ := rd_Consts _ _ _ _ _ _ _ _ _ f1
  obtain ⟨e0, i0⟩ := g0; obtain ⟨v1, e1, i1⟩ := g1; cases e0; cases e1; exact ⟨⟨a0, a1⟩, _, rfl, i0, i1⟩
theorem rd_I : Rd Try.prog 3 RInt := (rd_int Try.underlying3)
theorem rd_S : Rd Try.prog 9 RStr := (rd_str Try.underlying9)
theorem rd_I8s : Rd Try.prog 42 (fun w cs (l : List Int) => ∃ v, cs = [v] ∧ Sl w 1 RI8 v l) := rd_slice (rd_i8 Try.underlying47) (by kernel_rfl) (by decide) Try.underlying42
theorem rd_U8s : Rd Try.prog 51 (fun w cs (l : List Int) => ∃ v, cs = [v] ∧ Sl w 1 RU8 v l) := rd_slice (rd_u8 Try.underlying5) (by kernel_rfl) (by decide) Try.underlying51
theorem rd_A3 : Rd Try.prog 58 RI3 := by
  intro H enc w base spare held fuel cs x h
  obtain ⟨n, c0, c1, c2, rfl, ⟨y0, f0⟩, ⟨y1, f1⟩, ⟨y2, f2⟩⟩ := rdF58 h
  obtain ⟨a0, g0⟩ := (rd_int Try.underlying3) _ _ _ _ _ _ _ _ _ f0
  obtain ⟨a1, g1⟩ := (rd_int Try.underlying3) _ _ _ _ _ _ _ _ _ f1
  obtain ⟨a2, g2⟩ := (rd_int Try.underlying3) _ _ _ _ _ _ _ _ _ f2
  obtain ⟨e0, i0⟩ := g0; obtain ⟨e1, i1⟩ := g1; obtain ⟨e2, i2⟩ := g2; cases e0; cases e1; cases e2; exact ⟨(a0, a1, a2), rfl, i0, i1, i2⟩
theorem rd_A2 : Rd Try.prog 86 RI2 := by
  intro H enc w base spare held fuel cs x h
  obtain ⟨n, c0, c1, rfl, ⟨y0, f0⟩, ⟨y1, f1⟩⟩ := rdF86 h
  obtain ⟨a0, g0⟩ := (rd_int Try.underlying3) _ _ _ _ _ _ _ _ _ f0
  obtain ⟨a1, g1⟩ := (rd_int Try.underlying3) _ _ _ _ _ _ _ _ _ f1
  obtain ⟨e0, i0⟩ := g0; obtain ⟨e1, i1⟩ := g1; cases e0; cases e1; exact ⟨(a0, a1), rfl, i0, i1⟩
theorem rd_B3 : Rd Try.prog 54 RU3 := by
  intro H enc w base spare held fuel cs x h
  obtain ⟨n, c0, c1, c2, rfl, ⟨y0, f0⟩, ⟨y1, f1⟩, ⟨y2, f2⟩⟩ := rdF54 h
  obtain ⟨a0, g0⟩ := (rd_u8 Try.underlying5) _ _ _ _ _ _ _ _ _ f0
  obtain ⟨a1, g1⟩ := (rd_u8 Try.underlying5) _ _ _ _ _ _ _ _ _ f1
  obtain ⟨a2, g2⟩ := (rd_u8 Try.underlying5) _ _ _ _ _ _ _ _ _ f2
  obtain ⟨e0, i0⟩ := g0; obtain ⟨e1, i1⟩ := g1; obtain ⟨e2, i2⟩ := g2; cases e0; cases e1; cases e2; exact ⟨(a0, a1, a2), rfl, i0, i1, i2⟩
theorem rd_B2 : Rd Try.prog 76 RU2 := by
  intro H enc w base spare held fuel cs x h
  obtain ⟨n, c0, c1, rfl, ⟨y0, f0⟩, ⟨y1, f1⟩⟩ := rdF76 h
  obtain ⟨a0, g0⟩ := (rd_u8 Try.underlying5) _ _ _ _ _ _ _ _ _ f0
  obtain ⟨a1, g1⟩ := (rd_u8 Try.underlying5) _ _ _ _ _ _ _ _ _ f1
  obtain ⟨e0, i0⟩ := g0; obtain ⟨e1, i1⟩ := g1; cases e0; cases e1; exact ⟨(a0, a1), rfl, i0, i1⟩
theorem rd_At : Rd Try.prog 68 RAt := by
  intro H enc w base spare held fuel cs x h
  obtain ⟨n, c0, c1, c2, rfl, ⟨y0, f0⟩, ⟨y1, f1⟩, ⟨y2, f2⟩⟩ := rdF68 h
  obtain ⟨a0, g0⟩ := (rd_int Try.underlying3) _ _ _ _ _ _ _ _ _ f0
  obtain ⟨a1, g1⟩ := (rd_int Try.underlying3) _ _ _ _ _ _ _ _ _ f1
  obtain ⟨a2, g2⟩ := (rd_int Try.underlying3) _ _ _ _ _ _ _ _ _ f2
  obtain ⟨e0, i0⟩ := g0; obtain ⟨e1, i1⟩ := g1; obtain ⟨e2, i2⟩ := g2; cases e0; cases e1; cases e2; exact ⟨⟨a0, a1, a2⟩, rfl, i0, i1, i2⟩
theorem rd_Two : Rd Try.prog 84 RTwo := by
  intro H enc w base spare held fuel cs x h
  obtain ⟨n, c0, c1, c2, c3, c4, rfl, ⟨y0, f0⟩, ⟨y1, f1⟩, ⟨y2, f2⟩⟩ := rdF84 h
  obtain ⟨a0, g0⟩ := rd_At _ _ _ _ _ _ _ _ _ f0
  obtain ⟨a1, g1⟩ := (rd_u8 Try.underlying5) _ _ _ _ _ _ _ _ _ f1
  obtain ⟨a2, g2⟩ := (rd_u8 Try.underlying5) _ _ _ _ _ _ _ _ _ f2
  obtain ⟨e0, i0, j0, k0⟩ := g0; obtain ⟨e1, i1⟩ := g1; obtain ⟨e2, i2⟩ := g2; cases e0; cases e1; cases e2; exact ⟨⟨a0, a1, a2⟩, rfl, i0, j0, k0, i1, i2⟩
theorem rd_Truth : Rd Try.prog 53 RTruth := by
  intro H enc w base spare held fuel cs x h
  obtain ⟨n, c0, c1, c2, c3, c4, c5, rfl, ⟨y0, f0⟩, ⟨y1, f1⟩, ⟨y2, f2⟩, ⟨y3, f3⟩, ⟨y4, f4⟩, ⟨y5, f5⟩⟩ := rdF53 h
  obtain ⟨a0, g0⟩ := (rd_int Try.underlying3) _ _ _ _ _ _ _ _ _ f0
  obtain ⟨a1, g1⟩ := (rd_int Try.underlying3) _ _ _ _ _ _ _ _ _ f1
  obtain ⟨a2, g2⟩ := rd_I8s _ _ _ _ _ _ _ _ _ f2
  obtain ⟨a3, g3⟩ := rd_U8s _ _ _ _ _ _ _ _ _ f3
  obtain ⟨a4, g4⟩ := rd_U8s _ _ _ _ _ _ _ _ _ f4
  obtain ⟨a5, g5⟩ := rd_I8s _ _ _ _ _ _ _ _ _ f5
  obtain ⟨e0, i0⟩ := g0; obtain ⟨e1, i1⟩ := g1; obtain ⟨v2, e2, i2⟩ := g2; obtain ⟨v3, e3, i3⟩ := g3; obtain ⟨v4, e4, i4⟩ := g4; obtain ⟨v5, e5, i5⟩ := g5; cases e0; cases e1; cases e2; cases e3; cases e4; cases e5; exact ⟨⟨a0, a1, a2, a3, a4, a5⟩, _, _, _, _, rfl, i0, i1, i2, i3, i4, i5⟩
end Go.Proofs.Ytpgmehignepidaa
