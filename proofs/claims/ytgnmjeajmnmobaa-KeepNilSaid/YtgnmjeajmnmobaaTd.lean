/-
  A tree of nodes in memory that nobody turns: it can be read as long as what is kept is kept. Generic: no program in sight.
-/
import Derived.Test.YtgnmjeajmnmobaaGxBH
import Derived.Test.YtgnmjeajmnmobaaGxRd
import Derived.Test.YtgnmjeajmnmobaaTree
set_option linter.unusedVariables false
set_option linter.unusedSimpArgs false
namespace Go.Gx
open Go.Gx.Kp
/-- more is kept -/
def Xt (Z Z' : List Ent) : Prop := ∃ N, Z' = N ++ Z
theorem Xt.refl (Z : List Ent) : Xt Z Z := ⟨[], rfl⟩
theorem Xt.trans {A B C : List Ent} (h : Xt A B) (k : Xt B C) : Xt A C := by
  obtain ⟨N, rfl⟩ := h; obtain ⟨M, rfl⟩ := k; exact ⟨M ++ N, by rw [List.append_assoc]⟩
theorem Xt.cons (e : Ent) (Z : List Ent) : Xt Z (e :: Z) := ⟨[e], rfl⟩
theorem Xt.app (N Z : List Ent) : Xt Z (N ++ Z) := ⟨N, rfl⟩
section
variable {w0 w : World} {D : Nat → Prop} {R Z Z' M : List Ent}
theorem Rd.ext {x : Option Addr} {xs : List Value} (h : Rd w0 D Z x xs) (e : Xt Z Z') : Rd w0 D Z' x xs := by obtain ⟨N, rfl⟩ := e; exact h.push N
/-- a new block among what is kept -/
theorem Hp.sink {e : Ent} (H : Hp w0 D (e :: (M ++ Z)) w) : Hp w0 D (M ++ (e :: Z)) w := Hp.swap (A := [e]) (B := M) H
theorem Hp.sinkL {E : List Ent} (H : Hp w0 D (E ++ (M ++ Z)) w) : Hp w0 D (M ++ (E ++ Z)) w := Hp.swap (A := E) (B := M) H
theorem Hp.keptZ (e : Xt Z Z') (H : Hp w0 D (M ++ Z') w) : Hp w0 D Z w := by obtain ⟨N, rfl⟩ := e; exact H.dropL.dropL
theorem Hp.keptM (e : Xt Z Z') (H : Hp w0 D (M ++ Z') w) : Hp w0 D (M ++ Z) w := by
  obtain ⟨N, rfl⟩ := e
  exact (Hp.swap (A := M) (B := N) H).dropL
abbrev ptr (p : Option Nat) : Value := .pointer (adr p 0)
variable {κ ν : Type}
/-- the cells xs stand at x as long as R is kept, whatever the call's first world -/
def RdW (R : List Ent) (x : Option Addr) (xs : List Value) : Prop := ∀ (w0 : World) (D : Nat → Prop), Rd w0 D R x xs
theorem RdW.push {x : Option Addr} {xs : List Value} (h : RdW R x xs) (A : List Ent) : RdW (A ++ R) x xs := fun w0 D => (h w0 D).push A
theorem RdW.ofEnt {w : World} (H : Hp w0 D R w) {i : Nat} {x : Ent} {b : Nat} (hi : R[i]? = some x) (hb : x.a = some b) : RdW R (some ⟨b, 0, none⟩) x.xs := fun w1 D1 =>
  .inr ⟨b, 0, rfl, fun L' w' H' j v hj => by
    have hi' : (L' ++ R)[L'.length + i]? = some x := by rw [List.getElem?_append_right (by omega)]; simpa using hi
    rw [Nat.zero_add]
    exact H'.cell hi' hb hj⟩
/-- the tree t stands at p as long as R is kept -/
def Td (hd : κ → ν → List Value) (w0 : World) (D : Nat → Prop) (R : List Ent) : T κ ν → Option Nat → Prop
  | .nil, p => p = none
  | .node k v b a, p => ∃ q pb pa, p = some q ∧ RdW R (some ⟨q, 0, none⟩) (hd k v ++ [ptr pb, ptr pa, .int .i64 (((b.size + a.size + 1 : Nat) : Int)), .int .i64 (((max b.depth a.depth + 1 : Nat) : Int))]) ∧ Td hd w0 D R b pb ∧ Td hd w0 D R a pa
variable {hd : κ → ν → List Value}
theorem Td.push : ∀ {t : T κ ν} {p : Option Nat}, Td hd w0 D R t p → ∀ A, Td hd w0 D (A ++ R) t p
  | .nil, p, h, A => h
  | .node k v b a, p, h, A => by
    obtain ⟨q, pb, pa, hp, hr, hb, ha⟩ := h
    exact ⟨q, pb, pa, hp, hr.push A, hb.push A, ha.push A⟩
theorem Td.base {w1 : World} {D1 : Nat → Prop} : ∀ {t : T κ ν} {p : Option Nat}, Td hd w0 D R t p → Td hd w1 D1 R t p
  | .nil, p, h => h
  | .node k v b a, p, h => by
    obtain ⟨q, pb, pa, hp, hr, hb, ha⟩ := h
    exact ⟨q, pb, pa, hp, hr, hb.base, ha.base⟩
theorem Td.ext {t : T κ ν} {p : Option Nat} (h : Td hd w0 D Z t p) (e : Xt Z Z') : Td hd w0 D Z' t p := by obtain ⟨N, rfl⟩ := e; exact h.push N
theorem Td.none {t : T κ ν} (h : Td hd w0 D R t none) : t = .nil := by
  cases t with
  | nil => rfl
  | node k v b a => obtain ⟨q, pb, pa, hp, _⟩ := h; cases hp
theorem Td.some {t : T κ ν} {q : Nat} (h : Td hd w0 D R t (some q)) : ∃ k v b a pb pa, t = .node k v b a ∧ RdW R (.some ⟨q, 0, .none⟩) (hd k v ++ [ptr pb, ptr pa, .int .i64 (((b.size + a.size + 1 : Nat) : Int)), .int .i64 (((max b.depth a.depth + 1 : Nat) : Int))]) ∧ Td hd w0 D R b pb ∧ Td hd w0 D R a pa := by
  cases t with
  | nil => cases h
  | node k v b a => obtain ⟨q', pb, pa, hp, hr, hb, ha⟩ := h; cases hp; exact ⟨k, v, b, a, pb, pa, rfl, hr, hb, ha⟩
/-- what is read of a row that stands at the head of its block -/
theorem Rd.cells {q : Nat} {xs : List Value} (h : Rd w0 D R (some ⟨q, 0, none⟩) xs) : ∀ (L' : List Ent) (w' : World), Hp w0 D (L' ++ R) w' → ∀ (j : Nat) (v : Value), xs[j]? = some v → w'.cell? ⟨q, 0 + j, none⟩ = some v := by
  rcases h with h | ⟨b, o, e, h⟩
  · intro L' w' H j v hj; rw [h] at hj; simp at hj
  · cases e; exact h
theorem RdW.cells {q : Nat} {xs : List Value} (h : RdW R (some ⟨q, 0, none⟩) xs) : ∀ ⦃w0 : World⦄ ⦃D : Nat → Prop⦄ (L' : List Ent) (w' : World), Hp w0 D (L' ++ R) w' → ∀ (j : Nat) (v : Value), xs[j]? = some v → w'.cell? ⟨q, 0 + j, none⟩ = some v := fun w0 D => (h w0 D).cells
end
end Go.Gx
