/- What functions of layer 4 compute. -/
import Derived.Test.YtgnmjeajmnmobaaW26
import Derived.Test.YtgnmjeajmnmobaaW27
import Derived.WalkKit
import Derived.Lib.Hide
import Derived.Deep.LoopGhost
import Derived.WalkSpells
set_option linter.unusedVariables false
set_option linter.unusedSimpArgs false
namespace Go.Proofs.Ytgnmjeajmnmobaa
open Go.RowKit Go.Gx Go.Gx.Kp
set_option maxRecDepth 100000
theorem cellsH_app : ∀ l m : List HT, cellsH (l ++ m) = cellsH l ++ cellsH m
  | [], m => rfl
  | x :: l, m => by simp [cellsH, cellsH_app l m]
theorem cellsH_snoc (l : List HT) (a b c : Int) : cellsH l ++ [.int .i64 a, .int .i64 b, .int .i64 c] = cellsH (l ++ [(a, b, c)]) := by rw [cellsH_app]; rfl
theorem cellsH_one : ∀ l : List HT, (cellsH l).all (·.oneCell') = true
  | [] => rfl
  | x :: l => by simp only [cellsH, List.all_cons, cellsH_one l]; rfl
theorem cellsH_set : ∀ {l : List HT} {j : Nat} (x : HT), j < l.length → lay (cellsH l) (j * 3) [.int .i64 x.1, .int .i64 x.2.1, .int .i64 x.2.2] = cellsH (l.set j x)
  | [], j, x, h => by simp at h
  | y :: l, 0, x, h => by simp [cellsH, lay]
  | y :: l, j + 1, x, h => by
    have ih := cellsH_set (l := l) (j := j) x (by simpa using h)
    have e : (j + 1) * 3 = j * 3 + 1 + 1 + 1 := by omega
    rw [e]
    unfold lay at *
    simp only [cellsH, List.set_cons_succ, List.take_succ_cons, List.cons_append]
    rw [← ih]
    simp only [List.length_cons, List.length_nil, Nat.zero_add, Nat.reduceAdd]
    rw [show j * 3 + 1 + 1 + 1 + 3 = (j * 3 + 3) + 1 + 1 + 1 by omega]
    simp only [List.drop_succ_cons]
section
variable {P : Program} {w0 w : World} {D : Nat → Prop} {L : List Ent} {Q : Exit → Act → World → Prop} {a : Act} {K : Act → World → Prop}
theorem oStH (i j : Nat) {b o N : Nat} {e : TypeId} {x1 x2 x3 : Int} {l : List HT} {dst : Option Tmp} {t ty : TypeId} {ad va : Operand} {pos : String} {af : Array Edge} {g : Option (Nat × Bool)}
    (hx : a.eval ad = .pointer (some ⟨b, o, none⟩)) (hy : a.eval va = .agg (List.toArray [.int .i64 x1, .int .i64 x2, .int .i64 x3])) (H : Hp w0 D L w) (hi : L[i]? = some ⟨some b, cellsH l, e, N⟩) (ho : o = j * 3) (hj : j < l.length) (ht : tI P t = some (true, 3))
    (k : ∀ w', Hp w0 D (L.set i ⟨some b, cellsH (l.set j (x1, x2, x3)), e, N⟩) w' → K (a.put dst undef) w') : Oper.wp P ⟨dst, .store t ad va, ty, pos, af, g⟩ a w K Q := by
  subst ho
  refine oSt H hx ⟨_, hy, i, _, true, 3, _, hi, rfl, ht, rfl, rfl, by dsimp only; rw [cellsH_len]; omega, rfl, fun w' H' => k w' ?_⟩
  rwa [show lay (cellsH l) (j * 3) (Value.agg (List.toArray [.int .i64 x1, .int .i64 x2, .int .i64 x3])).cells.toList = cellsH (l.set j (x1, x2, x3)) from cellsH_set (x1, x2, x3) hj] at H'
end
end Go.Proofs.Ytgnmjeajmnmobaa
