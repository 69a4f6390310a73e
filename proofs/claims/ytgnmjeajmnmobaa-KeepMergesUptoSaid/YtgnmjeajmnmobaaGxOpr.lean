/-
  A row begun and a row appended, as one operation of a drawn region. Generic: no program in sight.
-/
import Derived.Test.YtgnmjeajmnmobaaGxApS2
set_option linter.unusedVariables false
set_option linter.unusedSimpArgs false
namespace Go.Gx
section
variable {P : Program} {w0 w : World} {D : Nat → Prop} {L : List Ent} {Q : Exit → Act → World → Prop} {K : Act → World → Prop} {a : Act}
theorem oBs0 {e : TypeId} {z : Value} {n m : Nat} {dst : Option Tmp} {t ty : TypeId} {pos : String} {af : Array Edge} {g : Option (Nat × Bool)}
    (ht : sI P t = some (e, z, n, m)) (H : Hp w0 D L w)
    (k : ∀ b w', Hp w0 D (⟨some b, [], e, 0⟩ :: L) w' → K (a.put dst (.slice (some ⟨b, 0, none⟩) 0 0)) w') : Oper.wp P ⟨dst, .buildSlice t 0 #[], ty, pos, af, g⟩ a w K Q := by
  obtain ⟨hu, i, hi, hz, rfl, rfl, hzs⟩ := sI_spec ht
  refine wp_run (v := .slice (some ⟨w.heap.size, 0, none⟩) 0 0) (w' := w.alloc (.cells #[] e)) ?_ (k _ _ (H.alloc #[] e [] rfl))
  simp [execOp, Instr.buildSlice, run_underlying hu, sizeOf, typeInfo, hi, Instr.fill, newRow]
  rw [show (Array.map (fun _ => (default : Value)) (Array.range 0)) = #[] from Array.eq_empty_of_size_eq_zero (by simp)]
theorem oAppR (i : Nat) {b : Nat} {x : Ent} {src : Option Addr} {news : List Value} {e : TypeId} {z : Value} {sz bytes n cap m c : Nat} {dst : Option Tmp} {s v : Operand} {t ty : TypeId} {pos : String} {af : Array Edge} {g : Option (Nat × Bool)}
    (H : Hp w0 D L w) (hi : L[i]? = some x) (hxa : x.a = some b) (hs : a.eval s = .slice (some ⟨b, 0, none⟩) n cap) (hv : a.eval v = .slice src m c) (ht : sI P t = some (e, z, sz, bytes)) (hsz : 0 < sz)
    (hxe : x.e = e) (hxl : x.xs.length = n * sz) (hxN : x.N = cap * sz) (hy0 : src = none → news = []) (hnl : news.length = m * sz) (h1 : news.all (·.oneCell') = true) (hnews : ∀ a, src = some a → ∀ (j : Nat) (u : Value), news[j]? = some u → w.cell? (a.add j) = some u)
    (b1 : n + m ≤ maxLen) (b2 : (n + m) * bytes ≤ 140737488355328)
    (kk : ∀ a' cap' w', Hp w0 D (L.set i ⟨some a', x.xs ++ news, e, cap' * sz⟩) w' → K (a.put dst (.slice (some ⟨a', 0, none⟩) (n + m) cap')) w') :
    Oper.wp P ⟨dst, .call { callee := .builtin .append, args := #[s, v], argTypes := #[t, t] }, ty, pos, af, g⟩ a w K Q := by
  obtain ⟨hu, inf, hinf, hz, rfl, rfl, hzs⟩ := sI_spec ht
  have hone : ∀ u ∈ news, u.oneCell' = true := fun u hu => List.all_eq_true.1 h1 u hu
  have hS : Src P inf.size t (.slice src m c) m news w := by
    cases hsr : src with
    | none =>
      have h0 := hy0 hsr
      subst h0
      have hm : m = 0 := by
        rcases Nat.mul_eq_zero.1 hnl.symm with h | h
        · exact h
        · omega
      subst hm
      exact Src.ofNil w hu c
    | some A => exact Src.ofSlice w hu A m c news hnl (hnews A hsr) hone
  obtain ⟨a', cap', w', hr, H'⟩ := H.appendS (ty := ty) ht hsz hi hxa hxe hxl hxN hS b1 b2
  refine wp_run ?_ (kk a' cap' w' H')
  simp only [execOp, resolve, invoke, builtin, Sem.run_bind, Sem.run_pure, Result.andThen_ok, List.map_toArray, List.map_cons, List.map_nil, hs, hv, hr]
end
end Go.Gx
