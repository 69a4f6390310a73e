/- What the tables of this translation say of the types that the walks meet. -/
import Derived.Test.YtebecelhcpljaaaRows
import Derived.Test.YtebecelhcpljaaaModel
import Derived.Laws.StructEq
set_option linter.unusedVariables false
set_option linter.unusedSimpArgs false
namespace Go.Proofs.Ytebecelhcpljaaa
open Go.Gx Go.Gx.Trm
set_option maxRecDepth 100000
theorem T3 : tI Try.prog 3 = some (false, 1) := by kernel_rfl
theorem T4 : tI Try.prog 4 = some (false, 1) := by kernel_rfl
theorem T9 : tI Try.prog 9 = some (false, 1) := by kernel_rfl
theorem T22 : tI Try.prog 22 = some (false, 1) := by kernel_rfl
theorem T28 : tI Try.prog 28 = some (false, 1) := by kernel_rfl
theorem T31 : tI Try.prog 31 = some (false, 1) := by kernel_rfl
theorem T34 : tI Try.prog 34 = some (false, 1) := by kernel_rfl
theorem T41 : tI Try.prog 41 = some (false, 1) := by kernel_rfl
theorem T47 : tI Try.prog 47 = some (false, 1) := by kernel_rfl
theorem T61 : tI Try.prog 61 = some (false, 1) := by kernel_rfl
theorem T78 : tI Try.prog 78 = some (false, 1) := by kernel_rfl
theorem T79 : tI Try.prog 79 = some (false, 1) := by kernel_rfl
theorem T33 : tI Try.prog 33 = some (true, 7) := by kernel_rfl
theorem T43 : tI Try.prog 43 = some (true, 3) := by kernel_rfl
theorem T50 : tI Try.prog 50 = some (true, 6) := by kernel_rfl
theorem T81 : tI Try.prog 81 = some (true, 2) := by kernel_rfl
theorem T88 : tI Try.prog 88 = some (true, 9) := by kernel_rfl
theorem T110 : tI Try.prog 110 = some (true, 5) := by kernel_rfl
theorem T122 : tI Try.prog 122 = some (true, 50) := by kernel_rfl
theorem Z28 : zI Try.prog 28 = some (.int .i64 0) := by kernel_rfl
theorem Z33 : zI Try.prog 33 = some (.agg (List.toArray [.int .i64 0, .int .i64 0, .int .i64 0, .int .u64 0, .string ⟨#[]⟩, .int .i64 0, .int .i64 0])) := by kernel_rfl
theorem Z50 : zI Try.prog 50 = some (.agg (List.toArray [.int .i64 0, .int .i64 0, .int .i64 0, .int .u64 0, .string ⟨#[]⟩, .slice none 0 0])) := by kernel_rfl
theorem Z110 : zI Try.prog 110 = some (.agg (List.toArray [.bool false, .bool false, .bool false, .bool false, .int .i64 0])) := by kernel_rfl
theorem Z122 : zI Try.prog 122 = some (.agg (List.toArray (List.flatten (List.replicate 10 [.bool false, .bool false, .bool false, .bool false, .int .i64 0])))) := by kernel_rfl
theorem S22 : sI Try.prog 22 = some (33, .agg #[.int .i64 0, .int .i64 0, .int .i64 0, .int .u64 0, .string ⟨#[]⟩, .int .i64 0, .int .i64 0], 7, 64) := by kernel_rfl
theorem S41 : sI Try.prog 41 = some (3, .int .i64 0, 1, 8) := by kernel_rfl
theorem S61 : sI Try.prog 61 = some (28, .int .i64 0, 1, 8) := by kernel_rfl
theorem S79 : sI Try.prog 79 = some (88, .agg #[.int .i64 0, .int .i64 0, .int .i64 0, .int .u64 0, .string ⟨#[]⟩, .int .i64 0, .int .i64 0, .int .i64 0, .int .i64 0], 9, 80) := by kernel_rfl
theorem idx122 (k : Int) (h1 : 1 ≤ k) (h2 : k ≤ 9) (w : World) : (Instr.index 122 (.agg shAll.toArray) (.int .i64 k)).run Try.prog w = .ok (.agg (shRow k).toArray) w := by
  have : k = 1 ∨ k = 2 ∨ k = 3 ∨ k = 4 ∨ k = 5 ∨ k = 6 ∨ k = 7 ∨ k = 8 ∨ k = 9 := by omega
  rcases this with rfl | rfl | rfl | rfl | rfl | rfl | rfl | rfl | rfl <;> rfl
theorem G33 : Try.prog.eqGuardType Try.prog.depth 33 = false := by kernel_rfl
set_option maxHeartbeats 2000000 in
theorem eq33 (d : Nat) (l m : Nd) (w : World) : (Op.equalIn (d + 2) 33 (.agg l.cells.toArray) (.agg m.cells.toArray)).run Try.prog w = .ok (l.beq m) w := by
  obtain ⟨a, b, c, t, f, g, h⟩ := l
  obtain ⟨a', b', c', t', f', g', h'⟩ := m
  simp only [Nd.cells]
  go_simp
  unfold Nd.beq sEq
  repeat' split
  all_goals simp_all
/-! ### one word for what the tables say, and loads and stores entry by entry: short arms -/
theorem T114 : tI Try.prog 114 = some (false, 1) := by kernel_rfl
theorem S47 : sI Try.prog 47 = some (50, .agg #[.int .i64 0, .int .i64 0, .int .i64 0, .int .u64 0, .string ⟨#[]⟩, .slice none 0 0], 6, 72) := by kernel_rfl
theorem S115 : sI Try.prog 115 = some (114, .pointer none, 1, 8) := by kernel_rfl
def tabTL : List (TypeId × (Bool × Nat)) := [(3, false, 1), (28, false, 1), (50, true, 6), (33, true, 7), (47, false, 1), (31, false, 1), (9, false, 1), (4, false, 1), (22, false, 1), (34, false, 1), (41, false, 1), (61, false, 1), (78, false, 1), (79, false, 1), (114, false, 1), (43, true, 3), (81, true, 2), (88, true, 9), (110, true, 5), (122, true, 50)]
theorem tabTL_all : ∀ p ∈ tabTL, tI Try.prog p.1 = some p.2 := by
  simp only [tabTL, List.forall_mem_cons, List.not_mem_nil, false_implies, implies_true, and_true]
  exact ⟨T3, T28, T50, T33, T47, T31, T9, T4, T22, T34, T41, T61, T78, T79, T114, T43, T81, T88, T110, T122⟩
def tabT (t : TypeId) : Option (Bool × Nat) := (tabTL.find? fun p => p.1 == t).map (·.2)
theorem TT (t : TypeId) {x : Bool × Nat} (h : tabT t = some x) : tI Try.prog t = some x := by
  unfold tabT at h
  cases hf : tabTL.find? (fun p => p.1 == t) with
  | none => rw [hf] at h; cases h
  | some p =>
    rw [hf] at h
    have h1 := List.find?_some hf
    have h1 : p.1 = t := by simpa using h1
    have h2 : p.2 = x := by simpa using h
    rw [← h1, ← h2]
    exact tabTL_all p (List.mem_of_find?_eq_some hf)
def zNd : Value := .agg #[.int .i64 0, .int .i64 0, .int .i64 0, .int .u64 0, .string ⟨#[]⟩, .int .i64 0, .int .i64 0]
def tabSL : List (TypeId × (TypeId × Value × Nat × Nat)) := [(47, 50, .agg #[.int .i64 0, .int .i64 0, .int .i64 0, .int .u64 0, .string ⟨#[]⟩, .slice none 0 0], 6, 72), (61, 28, .int .i64 0, 1, 8), (22, 33, .agg #[.int .i64 0, .int .i64 0, .int .i64 0, .int .u64 0, .string ⟨#[]⟩, .int .i64 0, .int .i64 0], 7, 64),
  (41, 3, .int .i64 0, 1, 8), (79, 88, .agg #[.int .i64 0, .int .i64 0, .int .i64 0, .int .u64 0, .string ⟨#[]⟩, .int .i64 0, .int .i64 0, .int .i64 0, .int .i64 0], 9, 80), (115, 114, .pointer none, 1, 8)]
theorem tabSL_all : ∀ p ∈ tabSL, sI Try.prog p.1 = some p.2 := by
  simp only [tabSL, List.forall_mem_cons, List.not_mem_nil, false_implies, implies_true, and_true]
  exact ⟨S47, S61, S22, S41, S79, S115⟩
def tabS (t : TypeId) : Option (TypeId × Value × Nat × Nat) := (tabSL.find? fun p => p.1 == t).map (·.2)
theorem SS (t : TypeId) {x : TypeId × Value × Nat × Nat} (h : tabS t = some x) : sI Try.prog t = some x := by
  unfold tabS at h
  cases hf : tabSL.find? (fun p => p.1 == t) with
  | none => rw [hf] at h; cases h
  | some p =>
    rw [hf] at h
    have h1 := List.find?_some hf
    have h1 : p.1 = t := by simpa using h1
    have h2 : p.2 = x := by simpa using h
    rw [← h1, ← h2]
    exact tabSL_all p (List.mem_of_find?_eq_some hf)
section
variable {P : Program} {L : List Ent} {e : Ent} {b o : Nat} {t : TypeId}
theorem gEx {K : Value → Prop} (k : ∃ (i : Nat) (x : Ent) (agg : Bool) (n : Nat) (v : Value), L[i]? = some x ∧ x.a = some b ∧ tI P t = some (agg, n) ∧ pick agg n x.xs o = some v ∧ K v) :
    ∃ (i : Nat) (x : Ent) (agg : Bool) (n : Nat) (v : Value), L[i]? = some x ∧ x.a = some b ∧ tI P t = some (agg, n) ∧ pick agg n x.xs o = some v ∧ K v := k
theorem nxL {K : Value → Prop} (k : ∃ (i : Nat) (x : Ent) (agg : Bool) (n : Nat) (v : Value), L[i]? = some x ∧ x.a = some b ∧ tI P t = some (agg, n) ∧ pick agg n x.xs o = some v ∧ K v) :
    ∃ (i : Nat) (x : Ent) (agg : Bool) (n : Nat) (v : Value), (e :: L)[i]? = some x ∧ x.a = some b ∧ tI P t = some (agg, n) ∧ pick agg n x.xs o = some v ∧ K v := by
  obtain ⟨i, x, agg, n, v, h, k⟩ := k
  exact ⟨i + 1, x, agg, n, v, by simpa using h, k⟩
theorem gES {v : Value} {K : Nat → Ent → List Value → Prop} (k : ∃ (i : Nat) (x : Ent) (agg : Bool) (n : Nat) (xs' : List Value), L[i]? = some x ∧ x.a = some b ∧ tI P t = some (agg, n) ∧ v.cells.size = n ∧ one v = true ∧ o + n ≤ x.xs.length ∧ lay x.xs o v.cells.toList = xs' ∧ K i x xs') :
    ∃ (i : Nat) (x : Ent) (agg : Bool) (n : Nat) (xs' : List Value), L[i]? = some x ∧ x.a = some b ∧ tI P t = some (agg, n) ∧ v.cells.size = n ∧ one v = true ∧ o + n ≤ x.xs.length ∧ lay x.xs o v.cells.toList = xs' ∧ K i x xs' := k
theorem nxS {v : Value} {K : Nat → Ent → List Value → Prop} (k : ∃ (i : Nat) (x : Ent) (agg : Bool) (n : Nat) (xs' : List Value), L[i]? = some x ∧ x.a = some b ∧ tI P t = some (agg, n) ∧ v.cells.size = n ∧ one v = true ∧ o + n ≤ x.xs.length ∧ lay x.xs o v.cells.toList = xs' ∧ K (i + 1) x xs') :
    ∃ (i : Nat) (x : Ent) (agg : Bool) (n : Nat) (xs' : List Value), (e :: L)[i]? = some x ∧ x.a = some b ∧ tI P t = some (agg, n) ∧ v.cells.size = n ∧ one v = true ∧ o + n ≤ x.xs.length ∧ lay x.xs o v.cells.toList = xs' ∧ K i x xs' := by
  obtain ⟨i, x, agg, n, xs', h, k⟩ := k
  exact ⟨i + 1, x, agg, n, xs', by simpa using h, k⟩
end
theorem CS1 : (∀ (p : Prop) [Decidable p], (decide p = true) = p) ∧ (∀ (p : Prop) [Decidable p], (decide p = false) = ¬ p) ∧ (∀ a b : Int, ((a == b) = true) = (a = b)) ∧ (∀ a b : Int, ((a == b) = false) = ¬ (a = b)) ∧ (∀ a b : List UInt8, ((a == b) = true) = (a = b)) ∧ (∀ a b : List UInt8, ((a == b) = false) = ¬ (a = b)) ∧
    (∀ a b : Bool, ((a == b) = true) = (a = b)) ∧ (∀ a b : Bool, ((a == b) = false) = ¬ (a = b)) ∧ (∀ a b : Int, ((a != b) = true) = ¬ (a = b)) ∧ (∀ a b : Int, ((a != b) = false) = (a = b)) ∧ (∀ b : Bool, ((!b) = true) = (b = false)) ∧ (∀ b : Bool, ((!b) = false) = (b = true)) ∧ (∀ a b : Int, (¬ a < b) = (b ≤ a)) ∧ (∀ a b : Int, (¬ a ≤ b) = (b < a)) := by
  refine ⟨?_, ?_, ?_, ?_, ?_, ?_, ?_, ?_, ?_, ?_, ?_, ?_, ?_, ?_⟩ <;> intros <;> simp
theorem LS1 : (∀ l : List Value, l.take 0 = []) ∧ (∀ l : List Value, [] ++ l = l) ∧ (∀ (a : Value) (l : List Value), (a :: l).length = l.length + 1) ∧ (([] : List Value).length = 0) ∧ (∀ n : Nat, 0 + n = n) ∧ (∀ (a : Value) (l : List Value) (n : Nat), (a :: l).drop (n + 1) = l.drop n) ∧ (∀ l : List Value, l.drop 0 = l) ∧ (∀ n : Nat, ([] : List Value).drop n = []) ∧ (∀ l : List Value, l ++ [] = l) ∧
    (∀ (a : Value) (l : List Value) (n : Nat), (a :: l).take (n + 1) = a :: l.take n) ∧ (∀ (a : Value) (l m : List Value), (a :: l) ++ m = a :: (l ++ m)) := by
  refine ⟨?_, ?_, ?_, ?_, ?_, ?_, ?_, ?_, ?_, ?_, ?_⟩ <;> intros <;> simp
theorem LS2 : (∀ (a : Value) (l : List Value) (n : Nat), (a :: l).drop (n + 1) = l.drop n) ∧ (∀ l : List Value, l.drop 0 = l) ∧ (∀ (a : Value) (l : List Value) (n : Nat), (a :: l).take (n + 1) = a :: l.take n) ∧ (∀ l : List Value, l.take 0 = []) ∧ (∀ (a b : Value) (l : List Value), (a :: l).set 0 b = b :: l) ∧ (∀ (a b : Value) (l : List Value) (n : Nat), (a :: l).set (n + 1) b = a :: l.set n b) := by
  refine ⟨?_, ?_, ?_, ?_, ?_, ?_⟩ <;> intros <;> simp
end Go.Proofs.Ytebecelhcpljaaa
