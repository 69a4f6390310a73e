/- What functions of layer 4 compute. -/
import Derived.Test.YtgnmjeajmnmobaaW28
import Derived.WalkKit
import Derived.Lib.Hide
import Derived.Deep.LoopGhost
import Derived.WalkSpells
set_option linter.unusedVariables false
set_option linter.unusedSimpArgs false
namespace Go.Proofs.Ytgnmjeajmnmobaa
open Go.RowKit Go.Gx Go.Gx.Kp
set_option maxRecDepth 100000
section
variable {P : Program} {w : World} {a : Act} {ops : Array Oper} {Q : Exit → Act → World → Prop} {rest : List Oper}
theorem run_quoI {m : Nat} {r : Nat} {dst : Option Tmp} {t u ty : TypeId} {x y : Operand} {pos : String} {af : Array Edge} {g : Option (Nat × Bool)} (hx : a.eval x = .int .i64 (m : Int)) (hy : a.eval y = .int .i64 2) (hr : m / 2 = r) (hm : m ≤ 1000000) :
    (execOp a.eval ⟨dst, .binOp .quo t x y u, ty, pos, af, g⟩).run P w = .ok (.value (.int .i64 (r : Int))) w := by
  subst hr
  have h1 : Int.tdiv (m : Int) 2 = ((m / 2 : Nat) : Int) := by rw [Int.tdiv_eq_ediv_of_nonneg (by omega)]; omega
  have e := conv64 (m := ((m / 2 : Nat) : Int)) (by omega) (by omega)
  simp [execOp, hx, hy, eqGuard, binOp, Op.intArith, Op.intDiv]
  exact conv64 (by omega) (by omega)
theorem wl_quo {m r : Nat} {dst : Option Tmp} {t u ty : TypeId} {x y : Operand} {pos : String} {af : Array Edge} {g : Option (Nat × Bool)}
    (hw : Region.wanted ⟨dst, .binOp .quo t x y u, ty, pos, af, g⟩ (yielded ops a.tmps) = true) (hx : a.eval x = .int .i64 (m : Int)) (hy : a.eval y = .int .i64 2) (hr : m / 2 = r) (hm : m ≤ 1000000)
    (k : wpList P ops Q rest (a.put dst (.int .i64 (r : Int))) w) : wpList P ops Q (⟨dst, .binOp .quo t x y u, ty, pos, af, g⟩ :: rest) a w := wl_run hw (run_quoI hx hy hr hm) k
theorem gQu {dst : Option Tmp} {t u ty : TypeId} {x y : Operand} {pos : String} {af : Array Edge} {g : Option (Nat × Bool)} (k : wpList P ops Q (⟨dst, .binOp .quo t x y u, ty, pos, af, g⟩ :: rest) a w) : wpList P ops Q (⟨dst, .binOp .quo t x y u, ty, pos, af, g⟩ :: rest) a w := k
end
section
variable {P : Program} {w0 w : World} {D : Nat → Prop} {L : List Ent} {Q : Exit → Act → World → Prop} {K : Act → World → Prop} {a : Act}
theorem oAppC (i : Nat) {x : Ent} {src : Option Addr} {news : List Value} {e : TypeId} {z : Value} {sz bytes n cap m c : Nat} {dst : Option Tmp} {s v : Operand} {t ty : TypeId} {pos : String} {af : Array Edge} {g : Option (Nat × Bool)}
    (H : Hp w0 D L w) (hi : L[i]? = some x) (hs : a.eval s = .slice (adr x.a 0) n cap) (hv : a.eval v = .slice (src) m c) (ht : sI P t = some (e, z, sz, bytes)) (hsz : 0 < sz)
    (hxe : x.e = e ∨ x.a = none) (hxl : x.xs.length = n * sz) (hxN : x.N = cap * sz) (hy0 : src = none → m = 0) (hnl : news.length = m * sz) (h1 : news.all (·.oneCell') = true) (hnews : ∀ a, src = some a → ∀ (j : Nat) (u : Value), news[j]? = some u → w.cell? (a.add j) = some u)
    (b1 : n + m ≤ maxLen) (b2 : (n + m) * bytes ≤ 140737488355328) (hp : 0 < n + m)
    (kk : ∀ a' cap' w', Hp w0 D (L.set i ⟨some a', x.xs ++ news, e, cap' * sz⟩) w' → K (a.put dst (.slice (some ⟨a', 0, none⟩) (n + m) cap')) w') :
    Oper.wp P ⟨dst, .call { callee := .builtin .append, args := #[s, v], argTypes := #[t, t] }, ty, pos, af, g⟩ a w K Q := by
  obtain ⟨a', cap', w', hr, H', h0⟩ := H.appendC (ty := ty) (c := c) ht hsz hi hxe hxl hxN hy0 hnl h1 hnews b1 b2
  cases a' with
  | none => have := h0 rfl; omega
  | some a' =>
    refine wp_run ?_ (kk a' cap' w' H')
    simp only [execOp, resolve, invoke, builtin, Sem.run_bind, Sem.run_pure, Result.andThen_ok, List.map_toArray, List.map_cons, List.map_nil, hs, hv, hr]
    rfl
end
end Go.Proofs.Ytgnmjeajmnmobaa
