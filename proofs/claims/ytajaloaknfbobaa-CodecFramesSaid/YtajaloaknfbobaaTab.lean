/- What the tables of this translation say of the types that the walks meet. -/
import Derived.Test.YtajaloaknfbobaaRows
import Derived.Test.YtajaloaknfbobaaGxRegionU
import Derived.Test.YtajaloaknfbobaaGxSl
import Derived.Test.YtajaloaknfbobaaGxBH
import Derived.Test.YtajaloaknfbobaaModel
set_option linter.unusedVariables false
set_option linter.unusedSimpArgs false
namespace Go.Proofs.Ytajaloaknfbobaa
open Go.Gx Go.Gx.Cod
theorem T2 : tI Try.prog 2 = some (false, 1) := by kernel_rfl
theorem T3 : tI Try.prog 3 = some (false, 1) := by kernel_rfl
theorem T4 : tI Try.prog 4 = some (false, 1) := by kernel_rfl
theorem T5 : tI Try.prog 5 = some (false, 1) := by kernel_rfl
theorem T9 : tI Try.prog 9 = some (false, 1) := by kernel_rfl
theorem T22 : tI Try.prog 22 = some (false, 1) := by kernel_rfl
theorem T23 : tI Try.prog 23 = some (false, 1) := by kernel_rfl
theorem T24 : tI Try.prog 24 = some (false, 1) := by kernel_rfl
theorem T33 : tI Try.prog 33 = some (false, 1) := by kernel_rfl
theorem T38 : tI Try.prog 38 = some (false, 1) := by kernel_rfl
theorem T54 : tI Try.prog 54 = some (false, 1) := by kernel_rfl
theorem T69 : tI Try.prog 69 = some (false, 1) := by kernel_rfl
theorem T66 : tI Try.prog 66 = some (true, 4) := by kernel_rfl
theorem T72 : tI Try.prog 72 = some (true, 4) := by kernel_rfl
theorem S22 : sI Try.prog 22 = some (5, .int .u8 0, 1, 1) := by kernel_rfl
theorem S54 : sI Try.prog 54 = some (22, .slice none 0 0, 1, 24) := by kernel_rfl
theorem S61 : sI Try.prog 61 = some (3, .int .i64 0, 1, 8) := by kernel_rfl
theorem Z33 : zI Try.prog 33 = some (.int .u64 0) := by kernel_rfl
theorem Z9 : zI Try.prog 9 = some (.string ⟨#[]⟩) := by kernel_rfl
theorem Z3 : zI Try.prog 3 = some (.int .i64 0) := by kernel_rfl
end Go.Proofs.Ytajaloaknfbobaa
