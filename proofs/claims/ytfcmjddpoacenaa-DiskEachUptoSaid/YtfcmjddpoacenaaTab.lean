/- What the tables of this translation say of the types that the walks meet. -/
import Derived.Test.YtfcmjddpoacenaaRows
import Derived.Test.YtfcmjddpoacenaaModel
import Derived.Laws.StructEq
set_option linter.unusedVariables false
set_option linter.unusedSimpArgs false
namespace Go.Proofs.Ytfcmjddpoacenaa
open Go.Gx Go.Gx.Dsk
theorem T3 : tI Try.prog 3 = some (false, 1) := by kernel_rfl
theorem T4 : tI Try.prog 4 = some (false, 1) := by kernel_rfl
theorem T9 : tI Try.prog 9 = some (false, 1) := by kernel_rfl
theorem T23 : tI Try.prog 23 = some (false, 1) := by kernel_rfl
theorem T27 : tI Try.prog 27 = some (false, 1) := by kernel_rfl
theorem T31 : tI Try.prog 31 = some (false, 1) := by kernel_rfl
theorem T33 : tI Try.prog 33 = some (false, 1) := by kernel_rfl
theorem T37 : tI Try.prog 37 = some (false, 1) := by kernel_rfl
theorem T45 : tI Try.prog 45 = some (false, 1) := by kernel_rfl
theorem T41 : tI Try.prog 41 = some (true, 3) := by kernel_rfl
theorem T50 : tI Try.prog 50 = some (true, 2) := by kernel_rfl
theorem T52 : tI Try.prog 52 = some (true, 4) := by kernel_rfl
theorem T69 : tI Try.prog 69 = some (true, 6) := by kernel_rfl
theorem T72 : tI Try.prog 72 = some (true, 6) := by kernel_rfl
theorem Z50 : zI Try.prog 50 = some (.agg (List.toArray [.int .i64 0, .string ⟨#[]⟩])) := by kernel_rfl
theorem Z41 : zI Try.prog 41 = some (.agg (List.toArray [.int .i64 0, .int .i64 0, .string ⟨#[]⟩])) := by kernel_rfl
theorem S33 : sI Try.prog 33 = some (9, .string ⟨#[]⟩, 1, 16) := by kernel_rfl
theorem S45 : sI Try.prog 45 = some (50, .agg #[.int .i64 0, .string ⟨#[]⟩], 2, 24) := by kernel_rfl
theorem S31 : sI Try.prog 31 = some (5, .int .u8 0, 1, 1) := by kernel_rfl
theorem G50 : Try.prog.eqGuardType Try.prog.depth 50 = false := by kernel_rfl
set_option maxHeartbeats 1000000 in
theorem eq50 (d : Nat) (l m : Wr) (w : World) : (Op.equalIn (d + 2) 50 (.agg l.cells.toArray) (.agg m.cells.toArray)).run Try.prog w = .ok (l.beq m) w := by
  obtain ⟨a, t⟩ := l
  obtain ⟨a', t'⟩ := m
  simp only [Wr.cells]
  go_simp
  unfold Wr.beq sEq
  repeat' split
  all_goals simp_all
end Go.Proofs.Ytfcmjddpoacenaa
