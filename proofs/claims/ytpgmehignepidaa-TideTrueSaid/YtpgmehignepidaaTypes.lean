/- The struct types of the translation: the addresses of their fields, and where the parts of a literal lie. -/
import Derived.Test.YtpgmehignepidaaLib8
import Derived.Laws.StructEq
import Derived.Test.YtpgmehignepidaaProg
set_option linter.all false
namespace Go.Proofs.Ytpgmehignepidaa
open Go Bx
variable {ρ : Operand → Value} {w : World} {ty : TypeId}
theorem mixed : Try.prog.follows .mixedOrders = true := by kernel_rfl
theorem fa24_0 {x : Operand} {b o : Nat} (hx : ρ x = .pointer (some ⟨b, o, none⟩)) : Y Try.prog ρ (.fieldAddr 24 x 0) ty w (.pointer (some ⟨b, o + 0, none⟩)) w := yFA hx Try.runUnderlying24 rfl rfl Try.sizeOf3 (by decide)
theorem fa24_1 {x : Operand} {b o : Nat} (hx : ρ x = .pointer (some ⟨b, o, none⟩)) : Y Try.prog ρ (.fieldAddr 24 x 1) ty w (.pointer (some ⟨b, o + 1, none⟩)) w := yFA hx Try.runUnderlying24 rfl rfl Try.sizeOf22 (by decide)
theorem pl24 : Places Try.prog 24 #[(0, 1), (1, 1)] := ⟨_, Try.underlying24, fun w => by simp [Try.sizeOf3, Try.sizeOf22]⟩
theorem fa34_0 {x : Operand} {b o : Nat} (hx : ρ x = .pointer (some ⟨b, o, none⟩)) : Y Try.prog ρ (.fieldAddr 34 x 0) ty w (.pointer (some ⟨b, o + 0, none⟩)) w := yFA hx Try.runUnderlying34 rfl rfl Try.sizeOf9 (by decide)
theorem fa34_1 {x : Operand} {b o : Nat} (hx : ρ x = .pointer (some ⟨b, o, none⟩)) : Y Try.prog ρ (.fieldAddr 34 x 1) ty w (.pointer (some ⟨b, o + 1, none⟩)) w := yFA hx Try.runUnderlying34 rfl rfl Try.sizeOf3 (by decide)
theorem fa34_2 {x : Operand} {b o : Nat} (hx : ρ x = .pointer (some ⟨b, o, none⟩)) : Y Try.prog ρ (.fieldAddr 34 x 2) ty w (.pointer (some ⟨b, o + 2, none⟩)) w := yFA hx Try.runUnderlying34 rfl rfl Try.sizeOf3 (by decide)
theorem fa34_3 {x : Operand} {b o : Nat} (hx : ρ x = .pointer (some ⟨b, o, none⟩)) : Y Try.prog ρ (.fieldAddr 34 x 3) ty w (.pointer (some ⟨b, o + 3, none⟩)) w := yFA hx Try.runUnderlying34 rfl rfl Try.sizeOf31 (by decide)
theorem fa34_4 {x : Operand} {b o : Nat} (hx : ρ x = .pointer (some ⟨b, o, none⟩)) : Y Try.prog ρ (.fieldAddr 34 x 4) ty w (.pointer (some ⟨b, o + 4, none⟩)) w := yFA hx Try.runUnderlying34 rfl rfl Try.sizeOf32 (by decide)
theorem pl34 : Places Try.prog 34 #[(0, 1), (1, 1), (2, 1), (3, 1), (4, 1)] := ⟨_, Try.underlying34, fun w => by simp [Try.sizeOf3, Try.sizeOf9, Try.sizeOf31, Try.sizeOf32]⟩
theorem fa38_0 {x : Operand} {b o : Nat} (hx : ρ x = .pointer (some ⟨b, o, none⟩)) : Y Try.prog ρ (.fieldAddr 38 x 0) ty w (.pointer (some ⟨b, o + 0, none⟩)) w := yFA hx Try.runUnderlying38 rfl rfl Try.sizeOf3 (by decide)
theorem fa38_1 {x : Operand} {b o : Nat} (hx : ρ x = .pointer (some ⟨b, o, none⟩)) : Y Try.prog ρ (.fieldAddr 38 x 1) ty w (.pointer (some ⟨b, o + 1, none⟩)) w := yFA hx Try.runUnderlying38 rfl rfl Try.sizeOf3 (by decide)
theorem pl38 : Places Try.prog 38 #[(0, 1), (1, 1)] := ⟨_, Try.underlying38, fun w => by simp [Try.sizeOf3]⟩
theorem fa46_0 {x : Operand} {b o : Nat} (hx : ρ x = .pointer (some ⟨b, o, none⟩)) : Y Try.prog ρ (.fieldAddr 46 x 0) ty w (.pointer (some ⟨b, o + 0, none⟩)) w := yFA hx Try.runUnderlying46 rfl rfl Try.sizeOf9 (by decide)
theorem fa46_1 {x : Operand} {b o : Nat} (hx : ρ x = .pointer (some ⟨b, o, none⟩)) : Y Try.prog ρ (.fieldAddr 46 x 1) ty w (.pointer (some ⟨b, o + 1, none⟩)) w := yFA hx Try.runUnderlying46 rfl rfl Try.sizeOf44 (by decide)
theorem fa46_2 {x : Operand} {b o : Nat} (hx : ρ x = .pointer (some ⟨b, o, none⟩)) : Y Try.prog ρ (.fieldAddr 46 x 2) ty w (.pointer (some ⟨b, o + 2, none⟩)) w := yFA hx Try.runUnderlying46 rfl rfl Try.sizeOf3 (by decide)
theorem fa46_3 {x : Operand} {b o : Nat} (hx : ρ x = .pointer (some ⟨b, o, none⟩)) : Y Try.prog ρ (.fieldAddr 46 x 3) ty w (.pointer (some ⟨b, o + 3, none⟩)) w := yFA hx Try.runUnderlying46 rfl rfl Try.sizeOf3 (by decide)
theorem fa46_4 {x : Operand} {b o : Nat} (hx : ρ x = .pointer (some ⟨b, o, none⟩)) : Y Try.prog ρ (.fieldAddr 46 x 4) ty w (.pointer (some ⟨b, o + 4, none⟩)) w := yFA hx Try.runUnderlying46 rfl rfl Try.sizeOf3 (by decide)
theorem fa46_5 {x : Operand} {b o : Nat} (hx : ρ x = .pointer (some ⟨b, o, none⟩)) : Y Try.prog ρ (.fieldAddr 46 x 5) ty w (.pointer (some ⟨b, o + 5, none⟩)) w := yFA hx Try.runUnderlying46 rfl rfl Try.sizeOf3 (by decide)
theorem pl46 : Places Try.prog 46 #[(0, 1), (1, 1), (2, 1), (3, 1), (4, 1), (5, 1)] := ⟨_, Try.underlying46, fun w => by simp [Try.sizeOf3, Try.sizeOf9, Try.sizeOf44]⟩
theorem fa53_0 {x : Operand} {b o : Nat} (hx : ρ x = .pointer (some ⟨b, o, none⟩)) : Y Try.prog ρ (.fieldAddr 53 x 0) ty w (.pointer (some ⟨b, o + 0, none⟩)) w := yFA hx Try.runUnderlying53 rfl rfl Try.sizeOf3 (by decide)
theorem fa53_1 {x : Operand} {b o : Nat} (hx : ρ x = .pointer (some ⟨b, o, none⟩)) : Y Try.prog ρ (.fieldAddr 53 x 1) ty w (.pointer (some ⟨b, o + 1, none⟩)) w := yFA hx Try.runUnderlying53 rfl rfl Try.sizeOf3 (by decide)
theorem fa53_2 {x : Operand} {b o : Nat} (hx : ρ x = .pointer (some ⟨b, o, none⟩)) : Y Try.prog ρ (.fieldAddr 53 x 2) ty w (.pointer (some ⟨b, o + 2, none⟩)) w := yFA hx Try.runUnderlying53 rfl rfl Try.sizeOf42 (by decide)
theorem fa53_3 {x : Operand} {b o : Nat} (hx : ρ x = .pointer (some ⟨b, o, none⟩)) : Y Try.prog ρ (.fieldAddr 53 x 3) ty w (.pointer (some ⟨b, o + 3, none⟩)) w := yFA hx Try.runUnderlying53 rfl rfl Try.sizeOf51 (by decide)
theorem fa53_4 {x : Operand} {b o : Nat} (hx : ρ x = .pointer (some ⟨b, o, none⟩)) : Y Try.prog ρ (.fieldAddr 53 x 4) ty w (.pointer (some ⟨b, o + 4, none⟩)) w := yFA hx Try.runUnderlying53 rfl rfl Try.sizeOf51 (by decide)
theorem fa53_5 {x : Operand} {b o : Nat} (hx : ρ x = .pointer (some ⟨b, o, none⟩)) : Y Try.prog ρ (.fieldAddr 53 x 5) ty w (.pointer (some ⟨b, o + 5, none⟩)) w := yFA hx Try.runUnderlying53 rfl rfl Try.sizeOf42 (by decide)
theorem pl53 : Places Try.prog 53 #[(0, 1), (1, 1), (2, 1), (3, 1), (4, 1), (5, 1)] := ⟨_, Try.underlying53, fun w => by simp [Try.sizeOf3, Try.sizeOf42, Try.sizeOf51]⟩
theorem fa68_0 {x : Operand} {b o : Nat} (hx : ρ x = .pointer (some ⟨b, o, none⟩)) : Y Try.prog ρ (.fieldAddr 68 x 0) ty w (.pointer (some ⟨b, o + 0, none⟩)) w := yFA hx Try.runUnderlying68 rfl rfl Try.sizeOf3 (by decide)
theorem fa68_1 {x : Operand} {b o : Nat} (hx : ρ x = .pointer (some ⟨b, o, none⟩)) : Y Try.prog ρ (.fieldAddr 68 x 1) ty w (.pointer (some ⟨b, o + 1, none⟩)) w := yFA hx Try.runUnderlying68 rfl rfl Try.sizeOf3 (by decide)
theorem fa68_2 {x : Operand} {b o : Nat} (hx : ρ x = .pointer (some ⟨b, o, none⟩)) : Y Try.prog ρ (.fieldAddr 68 x 2) ty w (.pointer (some ⟨b, o + 2, none⟩)) w := yFA hx Try.runUnderlying68 rfl rfl Try.sizeOf3 (by decide)
theorem pl68 : Places Try.prog 68 #[(0, 1), (1, 1), (2, 1)] := ⟨_, Try.underlying68, fun w => by simp [Try.sizeOf3]⟩
theorem fa78_0 {x : Operand} {b o : Nat} (hx : ρ x = .pointer (some ⟨b, o, none⟩)) : Y Try.prog ρ (.fieldAddr 78 x 0) ty w (.pointer (some ⟨b, o + 0, none⟩)) w := yFA hx Try.runUnderlying78 rfl rfl Try.sizeOf3 (by decide)
theorem fa78_1 {x : Operand} {b o : Nat} (hx : ρ x = .pointer (some ⟨b, o, none⟩)) : Y Try.prog ρ (.fieldAddr 78 x 1) ty w (.pointer (some ⟨b, o + 1, none⟩)) w := yFA hx Try.runUnderlying78 rfl rfl Try.sizeOf38 (by decide)
theorem pl78 : Places Try.prog 78 #[(0, 1), (1, 2)] := ⟨_, Try.underlying78, fun w => by simp [Try.sizeOf3, Try.sizeOf38]⟩
theorem fa84_0 {x : Operand} {b o : Nat} (hx : ρ x = .pointer (some ⟨b, o, none⟩)) : Y Try.prog ρ (.fieldAddr 84 x 0) ty w (.pointer (some ⟨b, o + 0, none⟩)) w := yFA hx Try.runUnderlying84 rfl rfl Try.sizeOf68 (by decide)
theorem fa84_1 {x : Operand} {b o : Nat} (hx : ρ x = .pointer (some ⟨b, o, none⟩)) : Y Try.prog ρ (.fieldAddr 84 x 1) ty w (.pointer (some ⟨b, o + 3, none⟩)) w := yFA hx Try.runUnderlying84 rfl rfl Try.sizeOf5 (by decide)
theorem fa84_2 {x : Operand} {b o : Nat} (hx : ρ x = .pointer (some ⟨b, o, none⟩)) : Y Try.prog ρ (.fieldAddr 84 x 2) ty w (.pointer (some ⟨b, o + 4, none⟩)) w := yFA hx Try.runUnderlying84 rfl rfl Try.sizeOf5 (by decide)
theorem pl84 : Places Try.prog 84 #[(0, 3), (3, 1), (4, 1)] := ⟨_, Try.underlying84, fun w => by simp [Try.sizeOf5, Try.sizeOf68]⟩
theorem fa96_0 {x : Operand} {b o : Nat} (hx : ρ x = .pointer (some ⟨b, o, none⟩)) : Y Try.prog ρ (.fieldAddr 96 x 0) ty w (.pointer (some ⟨b, o + 0, none⟩)) w := yFA hx Try.runUnderlying96 rfl rfl Try.sizeOf29 (by decide)
theorem fa96_1 {x : Operand} {b o : Nat} (hx : ρ x = .pointer (some ⟨b, o, none⟩)) : Y Try.prog ρ (.fieldAddr 96 x 1) ty w (.pointer (some ⟨b, o + 1, none⟩)) w := yFA hx Try.runUnderlying96 rfl rfl Try.sizeOf25 (by decide)
theorem pl96 : Places Try.prog 96 #[(0, 1), (1, 1)] := ⟨_, Try.underlying96, fun w => by simp [Try.sizeOf25, Try.sizeOf29]⟩
theorem fa103_0 {x : Operand} {b o : Nat} (hx : ρ x = .pointer (some ⟨b, o, none⟩)) : Y Try.prog ρ (.fieldAddr 103 x 0) ty w (.pointer (some ⟨b, o + 0, none⟩)) w := yFA hx Try.runUnderlying103 rfl rfl Try.sizeOf3 (by decide)
theorem fa103_1 {x : Operand} {b o : Nat} (hx : ρ x = .pointer (some ⟨b, o, none⟩)) : Y Try.prog ρ (.fieldAddr 103 x 1) ty w (.pointer (some ⟨b, o + 1, none⟩)) w := yFA hx Try.runUnderlying103 rfl rfl Try.sizeOf3 (by decide)
theorem pl103 : Places Try.prog 103 #[(0, 1), (1, 1)] := ⟨_, Try.underlying103, fun w => by simp [Try.sizeOf3]⟩
theorem fa113_0 {x : Operand} {b o : Nat} (hx : ρ x = .pointer (some ⟨b, o, none⟩)) : Y Try.prog ρ (.fieldAddr 113 x 0) ty w (.pointer (some ⟨b, o + 0, none⟩)) w := yFA hx Try.runUnderlying113 rfl rfl Try.sizeOf38 (by decide)
theorem fa113_1 {x : Operand} {b o : Nat} (hx : ρ x = .pointer (some ⟨b, o, none⟩)) : Y Try.prog ρ (.fieldAddr 113 x 1) ty w (.pointer (some ⟨b, o + 2, none⟩)) w := yFA hx Try.runUnderlying113 rfl rfl Try.sizeOf3 (by decide)
theorem pl113 : Places Try.prog 113 #[(0, 2), (2, 1)] := ⟨_, Try.underlying113, fun w => by simp [Try.sizeOf3, Try.sizeOf38]⟩
theorem fa127_0 {x : Operand} {b o : Nat} (hx : ρ x = .pointer (some ⟨b, o, none⟩)) : Y Try.prog ρ (.fieldAddr 127 x 0) ty w (.pointer (some ⟨b, o + 0, none⟩)) w := yFA hx Try.runUnderlying127 rfl rfl Try.sizeOf38 (by decide)
theorem pl127 : Places Try.prog 127 #[(0, 2)] := ⟨_, Try.underlying127, fun w => by simp [Try.sizeOf38]⟩
theorem fa142_0 {x : Operand} {b o : Nat} (hx : ρ x = .pointer (some ⟨b, o, none⟩)) : Y Try.prog ρ (.fieldAddr 142 x 0) ty w (.pointer (some ⟨b, o + 0, none⟩)) w := yFA hx Try.runUnderlying142 rfl rfl Try.sizeOf3 (by decide)
theorem fa142_1 {x : Operand} {b o : Nat} (hx : ρ x = .pointer (some ⟨b, o, none⟩)) : Y Try.prog ρ (.fieldAddr 142 x 1) ty w (.pointer (some ⟨b, o + 1, none⟩)) w := yFA hx Try.runUnderlying142 rfl rfl Try.sizeOf3 (by decide)
theorem pl142 : Places Try.prog 142 #[(0, 1), (1, 1)] := ⟨_, Try.underlying142, fun w => by simp [Try.sizeOf3]⟩
theorem eqIn38 {a0 b0 : Int} {a1 b1 : Int} : (Op.equalIn 10000 38 (.agg #[.int .i64 a0, .int .i64 a1]) (.agg #[.int .i64 b0, .int .i64 b1])).run Try.prog w = .ok (decide (a0 = b0) && decide (a1 = b1)) w := by
  have u3 := Try.underlying3
  have z3 := Try.sizeOf3
  have g3 := Try.isAgg3
  rw [show (10000 : Nat) = 9999 + 1 from rfl, run_equalIn_agg w 9999 38 _ _ (by kernel_rfl) (by kernel_rfl)]
  simp only [Program.fieldsOf, Try.underlying38]
  go_simp
  by_cases h0 : a0 = b0 <;> by_cases h1 : a1 = b1 <;> simp [h0, h1]
theorem eqS38 {x y : Operand} {t : TypeId} {a0 b0 : Int} {a1 b1 : Int} (hx : ρ x = .agg #[.int .i64 a0, .int .i64 a1]) (hy : ρ y = .agg #[.int .i64 b0, .int .i64 b1]) : Y Try.prog ρ (.binOp .eql 38 x y t) ty w (.bool ((decide (a0 = b0) && decide (a1 = b1)))) w := by
  have hg := run_eqGuard_agg (P := Try.prog) w .eql 38 x y #[.int .i64 a0, .int .i64 a1] #[.int .i64 b0, .int .i64 b1] (by kernel_rfl)
  have he := run_eql_struct (P := Try.prog) w 38 #[.int .i64 a0, .int .i64 a1] #[.int .i64 b0, .int .i64 b1]
  rw [eqIn38] at he
  simp only [Result.andThen_ok] at he
  simp [Y, xop, execOp, hx, hy, hg, he]
theorem neS38 {x y : Operand} {t : TypeId} {a0 b0 : Int} {a1 b1 : Int} (hx : ρ x = .agg #[.int .i64 a0, .int .i64 a1]) (hy : ρ y = .agg #[.int .i64 b0, .int .i64 b1]) : Y Try.prog ρ (.binOp .neq 38 x y t) ty w (.bool (!(decide (a0 = b0) && decide (a1 = b1)))) w := by
  have hg := run_eqGuard_agg (P := Try.prog) w .neq 38 x y #[.int .i64 a0, .int .i64 a1] #[.int .i64 b0, .int .i64 b1] (by kernel_rfl)
  have he := run_neq_struct (P := Try.prog) w 38 #[.int .i64 a0, .int .i64 a1] #[.int .i64 b0, .int .i64 b1]
  rw [eqIn38] at he
  simp only [Result.andThen_ok] at he
  simp [Y, xop, execOp, hx, hy, hg, he]
theorem ti3 : Try.prog.info? 3 = some Try.t3 := by kernel_rfl
theorem ti34 : Try.prog.info? 34 = some Try.t34 := by kernel_rfl
theorem ti38 : Try.prog.info? 38 = some Try.t38 := by kernel_rfl
theorem ti46 : Try.prog.info? 46 = some Try.t46 := by kernel_rfl
theorem ti103 : Try.prog.info? 103 = some Try.t103 := by kernel_rfl
theorem ti113 : Try.prog.info? 113 = some Try.t113 := by kernel_rfl
theorem ti127 : Try.prog.info? 127 = some Try.t127 := by kernel_rfl
theorem ti142 : Try.prog.info? 142 = some Try.t142 := by kernel_rfl
end Go.Proofs.Ytpgmehignepidaa
