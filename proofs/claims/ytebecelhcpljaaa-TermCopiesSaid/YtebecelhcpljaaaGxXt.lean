/- Memory that is kept and only grows. Generic: no program in sight. -/
import Derived.Test.YtebecelhcpljaaaGxBH
import Derived.Test.YtebecelhcpljaaaGxRd
set_option linter.unusedVariables false
set_option linter.unusedSimpArgs false
namespace Go.Gx
/-- more is kept -/
def Xt (Z Z' : List Ent) : Prop := ∃ N, Z' = N ++ Z
theorem Xt.refl (Z : List Ent) : Xt Z Z := ⟨[], rfl⟩
theorem Xt.trans {A B C : List Ent} (h : Xt A B) (k : Xt B C) : Xt A C := by
  obtain ⟨N, rfl⟩ := h; obtain ⟨M, rfl⟩ := k; exact ⟨M ++ N, by rw [List.append_assoc]⟩
theorem Xt.cons (e : Ent) (Z : List Ent) : Xt Z (e :: Z) := ⟨[e], rfl⟩
theorem Xt.app (N Z : List Ent) : Xt Z (N ++ Z) := ⟨N, rfl⟩
section
variable {w0 w : World} {D : Nat → Prop} {R Z Z' M : List Ent}
theorem Rd.ext {x : Option Addr} {xs : List Value} (h : Rd w0 D Z x xs) (e : Xt Z Z') : Rd w0 D Z' x xs := by obtain ⟨N, rfl⟩ := e; exact h.push N
/-- a new block among what is kept -/
theorem Hp.sink {e : Ent} (H : Hp w0 D (e :: (M ++ Z)) w) : Hp w0 D (M ++ (e :: Z)) w := Hp.swap (A := [e]) (B := M) H
theorem Hp.sinkL {E : List Ent} (H : Hp w0 D (E ++ (M ++ Z)) w) : Hp w0 D (M ++ (E ++ Z)) w := Hp.swap (A := E) (B := M) H
theorem Hp.keptZ (e : Xt Z Z') (H : Hp w0 D (M ++ Z') w) : Hp w0 D Z w := by obtain ⟨N, rfl⟩ := e; exact H.dropL.dropL
theorem Hp.keptM (e : Xt Z Z') (H : Hp w0 D (M ++ Z') w) : Hp w0 D (M ++ Z) w := by
  obtain ⟨N, rfl⟩ := e
  exact (Hp.swap (A := M) (B := N) H).dropL
/-- the cells xs stand at x as long as R is kept, whatever the call's first world -/
def RdW (R : List Ent) (x : Option Addr) (xs : List Value) : Prop := ∀ (w0 : World) (D : Nat → Prop), Rd w0 D R x xs
theorem RdW.push {x : Option Addr} {xs : List Value} (h : RdW R x xs) (A : List Ent) : RdW (A ++ R) x xs := fun w0 D => (h w0 D).push A
theorem RdW.ofEnt {i : Nat} {x : Ent} {b : Nat} (hi : R[i]? = some x) (hb : x.a = some b) : RdW R (some ⟨b, 0, none⟩) x.xs := fun w1 D1 =>
  .inr ⟨b, 0, rfl, fun L' w' H' j v hj => by
    have hi' : (L' ++ R)[L'.length + i]? = some x := by rw [List.getElem?_append_right (by omega)]; simpa using hi
    rw [Nat.zero_add]
    exact H'.cell hi' hb hj⟩
/-- what can be read from W on can be read from a later world on -/
theorem Rd.down {W : World} {E : Nat → Prop} (k : ∀ L' u, Hp w0 D L' u → Hp W E L' u) {x : Option Addr} {xs : List Value} (h : Rd W E R x xs) : Rd w0 D R x xs := by
  rcases h with h | ⟨b, o, hx, h⟩
  · exact .inl h
  · exact .inr ⟨b, o, hx, fun L' w' H => h L' w' (k _ _ H)⟩
end
end Go.Gx
