/-
  A slice's cells that can be read wherever a call goes on: an entry of what the call knows, or memory that came in. Generic: no program in sight.
-/
import Derived.Test.YtebecelhcpljaaaGxAp
set_option linter.unusedVariables false
set_option linter.unusedSimpArgs false
namespace Go.Gx
section
variable {P : Program} {w0 w : World} {D : Nat → Prop} {L R : List Ent} {ops : Array Oper} {Q : Exit → Act → World → Prop} {a : Act} {rest : List Oper}
/-- the cells xs stand at x as long as R is kept -/
def Rd (w0 : World) (D : Nat → Prop) (R : List Ent) (x : Option Addr) (xs : List Value) : Prop :=
  xs = [] ∨ ∃ b o, x = some ⟨b, o, none⟩ ∧ ∀ (L' : List Ent) (w' : World), Hp w0 D (L' ++ R) w' → ∀ (j : Nat) (v : Value), xs[j]? = some v → w'.cell? ⟨b, o + j, none⟩ = some v
/-- the same of memory that came in -/
def RdA (w0 : World) (D : Nat → Prop) (x : Option Addr) (xs : List Value) : Prop := xs = [] ∨ ∃ b o, x = some ⟨b, o, none⟩ ∧ Old w0 D b o xs
theorem RdA.rd {x : Option Addr} {xs : List Value} (h : RdA w0 D x xs) (R : List Ent) : Rd w0 D R x xs := by
  rcases h with h | ⟨b, o, hx, hO⟩
  · exact .inl h
  · exact .inr ⟨b, o, hx, fun L' w' H j v hj => H.old hO j v hj⟩
theorem Rd.ent (H : Hp w0 D R w) {i : Nat} {x : Ent} (hi : R[i]? = some x) : Rd w0 D R (adr x.a 0) x.xs := by
  cases hx : x.a with
  | none =>
    have := H.ents i x hi
    unfold Ent.at at this
    rw [hx] at this
    exact .inl this.1
  | some b =>
    refine .inr ⟨b, 0, rfl, fun L' w' H' j v hj => ?_⟩
    have hi' : (L' ++ R)[L'.length + i]? = some x := by rw [List.getElem?_append_right (by omega)]; simpa using hi
    rw [Nat.zero_add]
    exact H'.cell hi' hx hj
theorem Rd.push {x : Option Addr} {xs : List Value} (h : Rd w0 D R x xs) (A : List Ent) : Rd w0 D (A ++ R) x xs := by
  rcases h with h | ⟨b, o, hx, h⟩
  · exact .inl h
  · exact .inr ⟨b, o, hx, fun L' w' H => h (L' ++ A) w' (by rw [List.append_assoc]; exact H)⟩
theorem Rd.some_of {x : Option Addr} {xs : List Value} (h : Rd w0 D R x xs) (hl : 0 < xs.length) : ∃ b o, x = some ⟨b, o, none⟩ ∧ ∀ (L' : List Ent) (w' : World), Hp w0 D (L' ++ R) w' → ∀ (j : Nat) (v : Value), xs[j]? = some v → w'.cell? ⟨b, o + j, none⟩ = some v := by
  rcases h with h | h
  · rw [h] at hl; simp at hl
  · exact h
theorem Rd.news {x : Option Addr} {xs : List Value} (h : Rd w0 D R x xs) (L' : List Ent) (H : Hp w0 D (L' ++ R) w) : ∀ a, x = some a → ∀ (j : Nat) (u : Value), xs[j]? = some u → w.cell? (a.add j) = some u := by
  intro a ha j u hj
  rcases h with h | ⟨b, o, rfl, h⟩
  · rw [h] at hj; simp at hj
  · cases ha; rw [add_plain]; exact h L' w H j u hj
theorem Rd.nil {x : Option Addr} {xs : List Value} (h : Rd w0 D R x xs) (hx : x = none) : xs = [] := by
  rcases h with h | ⟨b, o, e, h⟩
  · exact h
  · rw [hx] at e; cases e
theorem Rd.pre {x : Option Addr} {xs ys zs : List Value} (h : Rd w0 D R x xs) (e : xs = ys ++ zs) : Rd w0 D R x ys := by
  rcases h with h | ⟨b, o, hx, h⟩
  · rw [h] at e; exact .inl (List.append_eq_nil_iff.1 e.symm).1
  · exact .inr ⟨b, o, hx, fun L' w' H j v hj => h L' w' H j v (by rw [e, List.getElem?_append_left (List.getElem?_eq_some_iff.1 hj).1]; exact hj)⟩
/-- cells that stand in a row: a load of them -/
theorem cells_load {b o k n : Nat} {vs : List Value} {agg : Bool} {t : TypeId} {v : Value} (hO : ∀ (j : Nat) (u : Value), vs[j]? = some u → w.cell? ⟨b, o + j, none⟩ = some u) (ht : tI P t = some (agg, n)) (hv : pick agg n vs k = some v) :
    (loadVar t ⟨b, o + k, none⟩).run P w = .ok v w := by
  obtain ⟨h1, h2⟩ := tI_isAgg ht w
  unfold loadVar
  simp only [Sem.run_bind, h1, Result.andThen_ok]
  cases agg with
  | false =>
    have hc := hO k v (by simpa [pick] using hv)
    show (Go.load ⟨b, o + k, none⟩).run P w = _
    rw [run_load, hc]
  | true =>
    simp only [pick, if_true] at hv
    split at hv
    · rename_i hle
      cases hv
      have := run_loadCells_list (P := P) w ⟨b, o + k, none⟩ ((vs.drop k).take n) (fun j v hj => by
        rw [add_plain]
        rw [List.getElem?_take] at hj
        split at hj
        · rw [List.getElem?_drop] at hj
          have := hO (k + j) v hj
          rwa [← Nat.add_assoc] at this
        · cases hj)
      have hl : ((vs.drop k).take n).length = n := by simp; omega
      rw [hl] at this
      simp [h2, this]
    · cases hv
theorem wl_loadR {b o o' k n : Nat} {vs : List Value} {agg : Bool} {v : Value} {dst : Option Tmp} {t ty : TypeId} {ad : Operand} {pos : String} {af : Array Edge} {g : Option (Nat × Bool)}
    (hO : ∀ (j : Nat) (u : Value), vs[j]? = some u → w.cell? ⟨b, o + j, none⟩ = some u)
    (hw : Region.wanted ⟨dst, .load t ad, ty, pos, af, g⟩ (yielded ops a.tmps) = true) (hx : a.eval ad = .pointer (some ⟨b, o', none⟩)) (he : o' = o + k)
    (ht : tI P t = some (agg, n)) (hv : pick agg n vs k = some v) (kk : wpList P ops Q rest (a.put dst v) w) : wpList P ops Q (⟨dst, .load t ad, ty, pos, af, g⟩ :: rest) a w := by
  subst he
  exact wl_run hw (by simp only [execOp, hx, Instr.loadAt, Instr.sureAddr, Sem.run_bind, Sem.run_pure, Result.andThen_ok, cells_load hO ht hv]) kk
theorem flat_get {sz : Nat} : ∀ {ls : List (List Value)}, (∀ vs ∈ ls, vs.length = sz) → ∀ {j : Nat} {v : Value}, ls.flatten[j]? = some v → ∃ i vs r, ls[i]? = some vs ∧ vs[r]? = some v ∧ j = i * sz + r
  | [], _, j, v, h => by simp at h
  | vs :: ls, hl, j, v, h => by
    rw [List.flatten_cons] at h
    have h0 : vs.length = sz := hl vs (by simp)
    by_cases hj : j < vs.length
    · rw [List.getElem?_append_left hj] at h
      exact ⟨0, vs, j, rfl, h, by omega⟩
    · rw [List.getElem?_append_right (by omega)] at h
      obtain ⟨i, us, r, h1, h2, h3⟩ := flat_get (fun us hu => hl us (by simp [hu])) h
      refine ⟨i + 1, us, r, by simpa using h1, h2, ?_⟩
      rw [h0] at h3
      rw [Nat.succ_mul]; omega
theorem RdA.of {x : Option Addr} {ls : List (List Value)} {sz : Nat} (h : OldRow w x ls sz) (hl : ∀ vs ∈ ls, vs.length = sz) : RdA w (fun _ => False) x ls.flatten := by
  rcases h with rfl | ⟨b, off, rfl, hb, h⟩
  · exact .inl rfl
  · refine .inr ⟨b, off, rfl, fun h => h, hb, fun j v hj => ?_⟩
    obtain ⟨i, vs, r, h1, h2, rfl⟩ := flat_get hl hj
    have := h i vs h1 r v h2
    rwa [Nat.add_assoc] at this
end
end Go.Gx
