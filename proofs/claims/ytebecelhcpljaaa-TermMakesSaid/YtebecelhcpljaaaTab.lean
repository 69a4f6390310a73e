/- What the tables of this translation say of the types that the walks meet. -/
import Derived.Test.YtebecelhcpljaaaRows
import Derived.Test.YtebecelhcpljaaaModel
import Derived.Laws.StructEq
set_option linter.unusedVariables false
set_option linter.unusedSimpArgs false
namespace Go.Proofs.Ytebecelhcpljaaa
open Go.Gx Go.Gx.Trm
set_option maxRecDepth 100000
theorem T3 : tI Try.prog 3 = some (false, 1) := by kernel_rfl
theorem T4 : tI Try.prog 4 = some (false, 1) := by kernel_rfl
theorem T9 : tI Try.prog 9 = some (false, 1) := by kernel_rfl
theorem T22 : tI Try.prog 22 = some (false, 1) := by kernel_rfl
theorem T28 : tI Try.prog 28 = some (false, 1) := by kernel_rfl
theorem T31 : tI Try.prog 31 = some (false, 1) := by kernel_rfl
theorem T34 : tI Try.prog 34 = some (false, 1) := by kernel_rfl
theorem T41 : tI Try.prog 41 = some (false, 1) := by kernel_rfl
theorem T47 : tI Try.prog 47 = some (false, 1) := by kernel_rfl
theorem T61 : tI Try.prog 61 = some (false, 1) := by kernel_rfl
theorem T78 : tI Try.prog 78 = some (false, 1) := by kernel_rfl
theorem T79 : tI Try.prog 79 = some (false, 1) := by kernel_rfl
theorem T33 : tI Try.prog 33 = some (true, 7) := by kernel_rfl
theorem T43 : tI Try.prog 43 = some (true, 3) := by kernel_rfl
theorem T50 : tI Try.prog 50 = some (true, 6) := by kernel_rfl
theorem T81 : tI Try.prog 81 = some (true, 2) := by kernel_rfl
theorem T88 : tI Try.prog 88 = some (true, 9) := by kernel_rfl
theorem T110 : tI Try.prog 110 = some (true, 5) := by kernel_rfl
theorem T122 : tI Try.prog 122 = some (true, 50) := by kernel_rfl
theorem Z28 : zI Try.prog 28 = some (.int .i64 0) := by kernel_rfl
theorem Z33 : zI Try.prog 33 = some (.agg (List.toArray [.int .i64 0, .int .i64 0, .int .i64 0, .int .u64 0, .string ⟨#[]⟩, .int .i64 0, .int .i64 0])) := by kernel_rfl
theorem Z50 : zI Try.prog 50 = some (.agg (List.toArray [.int .i64 0, .int .i64 0, .int .i64 0, .int .u64 0, .string ⟨#[]⟩, .slice none 0 0])) := by kernel_rfl
theorem Z110 : zI Try.prog 110 = some (.agg (List.toArray [.bool false, .bool false, .bool false, .bool false, .int .i64 0])) := by kernel_rfl
theorem Z122 : zI Try.prog 122 = some (.agg (List.toArray (List.flatten (List.replicate 10 [.bool false, .bool false, .bool false, .bool false, .int .i64 0])))) := by kernel_rfl
theorem S22 : sI Try.prog 22 = some (33, .agg #[.int .i64 0, .int .i64 0, .int .i64 0, .int .u64 0, .string ⟨#[]⟩, .int .i64 0, .int .i64 0], 7, 64) := by kernel_rfl
theorem S41 : sI Try.prog 41 = some (3, .int .i64 0, 1, 8) := by kernel_rfl
theorem S61 : sI Try.prog 61 = some (28, .int .i64 0, 1, 8) := by kernel_rfl
theorem S79 : sI Try.prog 79 = some (88, .agg #[.int .i64 0, .int .i64 0, .int .i64 0, .int .u64 0, .string ⟨#[]⟩, .int .i64 0, .int .i64 0, .int .i64 0, .int .i64 0], 9, 80) := by kernel_rfl
theorem idx122 (k : Int) (h1 : 1 ≤ k) (h2 : k ≤ 9) (w : World) : (Instr.index 122 (.agg shAll.toArray) (.int .i64 k)).run Try.prog w = .ok (.agg (shRow k).toArray) w := by
  have : k = 1 ∨ k = 2 ∨ k = 3 ∨ k = 4 ∨ k = 5 ∨ k = 6 ∨ k = 7 ∨ k = 8 ∨ k = 9 := by omega
  rcases this with rfl | rfl | rfl | rfl | rfl | rfl | rfl | rfl | rfl <;> rfl
theorem G33 : Try.prog.eqGuardType Try.prog.depth 33 = false := by kernel_rfl
set_option maxHeartbeats 2000000 in
theorem eq33 (d : Nat) (l m : Nd) (w : World) : (Op.equalIn (d + 2) 33 (.agg l.cells.toArray) (.agg m.cells.toArray)).run Try.prog w = .ok (l.beq m) w := by
  obtain ⟨a, b, c, t, f, g, h⟩ := l
  obtain ⟨a', b', c', t', f', g', h'⟩ := m
  simp only [Nd.cells]
  go_simp
  unfold Nd.beq sEq
  repeat' split
  all_goals simp_all
end Go.Proofs.Ytebecelhcpljaaa
