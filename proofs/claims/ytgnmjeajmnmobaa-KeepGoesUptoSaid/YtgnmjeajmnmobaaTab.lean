/- What the tables of this translation say of the types that the walks meet. -/
import Derived.Test.YtgnmjeajmnmobaaRows
import Derived.Test.YtgnmjeajmnmobaaModel
import Derived.Laws.StructEq
set_option linter.unusedVariables false
set_option linter.unusedSimpArgs false
namespace Go.Proofs.Ytgnmjeajmnmobaa
open Go.Gx Go.Gx.Kp
theorem T2 : tI Try.prog 2 = some (false, 1) := by kernel_rfl
theorem T3 : tI Try.prog 3 = some (false, 1) := by kernel_rfl
theorem T4 : tI Try.prog 4 = some (false, 1) := by kernel_rfl
theorem T9 : tI Try.prog 9 = some (false, 1) := by kernel_rfl
theorem T22 : tI Try.prog 22 = some (false, 1) := by kernel_rfl
theorem T25 : tI Try.prog 25 = some (false, 1) := by kernel_rfl
theorem T27 : tI Try.prog 27 = some (true, 1) := by kernel_rfl
theorem T31 : tI Try.prog 31 = some (false, 1) := by kernel_rfl
theorem T34 : tI Try.prog 34 = some (true, 2) := by kernel_rfl
theorem T41 : tI Try.prog 41 = some (true, 3) := by kernel_rfl
theorem T42 : tI Try.prog 42 = some (false, 1) := by kernel_rfl
theorem T44 : tI Try.prog 44 = some (true, 3) := by kernel_rfl
theorem T47 : tI Try.prog 47 = some (false, 1) := by kernel_rfl
theorem T52 : tI Try.prog 52 = some (false, 1) := by kernel_rfl
theorem T53 : tI Try.prog 53 = some (false, 1) := by kernel_rfl
theorem T75 : tI Try.prog 75 = some (true, 2) := by kernel_rfl
theorem T97 : tI Try.prog 97 = some (false, 1) := by kernel_rfl
theorem T99 : tI Try.prog 99 = some (true, 1) := by kernel_rfl
theorem T101 : tI Try.prog 101 = some (true, 1) := by kernel_rfl
theorem T106 : tI Try.prog 106 = some (true, 2) := by kernel_rfl
theorem T107 : tI Try.prog 107 = some (false, 1) := by kernel_rfl
theorem T109 : tI Try.prog 109 = some (true, 2) := by kernel_rfl
theorem T112 : tI Try.prog 112 = some (true, 6) := by kernel_rfl
theorem T116 : tI Try.prog 116 = some (false, 1) := by kernel_rfl
theorem T118 : tI Try.prog 118 = some (true, 3) := by kernel_rfl
theorem T120 : tI Try.prog 120 = some (true, 3) := by kernel_rfl
theorem T137 : tI Try.prog 137 = some (true, 0) := by kernel_rfl
theorem T146 : tI Try.prog 146 = some (true, 5) := by kernel_rfl
end Go.Proofs.Ytgnmjeajmnmobaa
