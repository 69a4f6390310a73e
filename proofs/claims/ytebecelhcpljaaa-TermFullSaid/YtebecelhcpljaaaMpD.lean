/- Deleting out of a map with nodes for keys, beside Hp. -/
import Derived.Test.YtebecelhcpljaaaMpN
set_option linter.unusedVariables false
set_option linter.unusedSimpArgs false
namespace Go.Proofs.Ytebecelhcpljaaa
open Go.RowKit Go.Gx Go.Gx.Trm Go.MapKept
set_option maxRecDepth 100000
abbrev kvp (l : List (Nd × Value)) : List (Value × Value) := l.map fun p => (.agg p.1.cells.toArray, p.2)
def kvN : List En → Nat → List (Nd × Value)
  | [], _ => []
  | e :: l, i => (e.n, .int .i64 ((i : Int) + 1)) :: kvN l (i + 1)
theorem kvF_N : ∀ (l : List En) (i : Nat), kvF l i = kvp (kvN l i)
  | [], i => rfl
  | e :: l, i => by simp only [kvF, kvN, kvp, List.map_cons]; rw [kvF_N l (i + 1)]
theorem kvN_app : ∀ (l m : List En) (i : Nat), kvN (l ++ m) i = kvN l i ++ kvN m (i + l.length)
  | [], m, i => by simp [kvN]
  | e :: l, m, i => by
    simp only [List.cons_append, kvN, kvN_app l m (i + 1), List.length_cons]
    rw [show i + 1 + l.length = i + (l.length + 1) by omega]
theorem kvN_mem : ∀ {l : List En} {i : Nat} {p : Nd × Value}, p ∈ kvN l i → ∃ e ∈ l, e.n = p.1
  | [], i, p, h => by simp [kvN] at h
  | e :: l, i, p, h => by
    simp only [kvN] at h
    rcases List.mem_cons.1 h with rfl | h
    · exact ⟨e, by simp, rfl⟩
    · obtain ⟨e', h1, h2⟩ := kvN_mem h
      exact ⟨e', by simp [h1], h2⟩
theorem find_P (n : Nd) (w : World) (v : Value) (rest : List (Nd × Value)) : ∀ (pre : List (Nd × Value)) (es : List MapEntry) (j : Nat), es.map (fun e => (e.key, e.val)) = kvp (pre ++ (n, v) :: rest) → (∀ p ∈ pre, ¬ p.1 = n) →
    (Instr.findAsking 33 (.agg n.cells.toArray) es j).run Try.prog w = .ok (some (j + pre.length, v)) w
  | [], es, j, h, hn => by
    cases es with
    | nil => cases h
    | cons x es =>
      simp only [kvp, List.nil_append, List.map_cons, List.cons.injEq, Prod.mk.injEq] at h
      obtain ⟨⟨h1, h2⟩, h3⟩ := h
      have hb : n.beq n = true := Nd.beq_iff.2 rfl
      simp [Instr.findAsking, h1, h2, eqN, hb, Result.andThen]
  | p :: pre, es, j, h, hn => by
    cases es with
    | nil => cases h
    | cons x es =>
      simp only [kvp, List.cons_append, List.map_cons, List.cons.injEq, Prod.mk.injEq] at h
      obtain ⟨⟨h1, h2⟩, h3⟩ := h
      have hb : n.beq p.1 = false := by
        cases hb : n.beq p.1 with
        | false => rfl
        | true => exact absurd (Nd.beq_iff.1 hb).symm (hn p (by simp))
      have ih := find_P n w v rest pre es (j + 1) h3 (fun q hq => hn q (by simp [hq]))
      simp only [Instr.findAsking, h1, Sem.run_bind, eqN, hb, Result.andThen_ok, List.length_cons]
      rw [show j + (pre.length + 1) = j + 1 + pre.length by omega]
      simpa using ih
theorem map_erase {α β : Type} (f : α → β) : ∀ (l : List α) (i : Nat), (l.eraseIdx i).map f = (l.map f).eraseIdx i
  | [], i => by simp
  | x :: l, 0 => by simp
  | x :: l, i + 1 => by simp [map_erase f l i]
theorem erase_mid {α : Type} (a : List α) (x : α) (b : List α) : (a ++ x :: b).eraseIdx a.length = a ++ b := by
  rw [List.eraseIdx_append_of_length_le (Nat.le_refl _)]; simp
theorem Hg_delN {W w : World} {D : Nat → Prop} {L : List Ent} {M : List (Nat × List (Value × Value))} {b : Nat} {pre rest : List (Nd × Value)} {n : Nd} {v : Value} {ty : TypeId} (h : Hg W D M L w) {i : Nat} (hi : M[i]? = some (b, kvp (pre ++ (n, v) :: rest))) (hno : ∀ p ∈ pre, ¬ p.1 = n) :
    ∃ w', (Builtin.delete_ #[78, 33] ty #[.map (some b), .agg n.cells.toArray]).run Try.prog w = .ok (.tuple #[]) w' ∧ Hg W D (M.set i (b, kvp (pre ++ rest))) L w' := by
  obtain ⟨es, ck, hb, he⟩ := h.map hi
  have he : es.toList.map (fun e => (e.key, e.val)) = kvp (pre ++ (n, v) :: rest) := he
  have hfa := find_P n w v rest pre es.toList 0 he hno
  rw [Nat.zero_add] at hfa
  have hf : (Instr.findKey 33 (.agg n.cells.toArray) es.toList).run Try.prog w = .ok (some (pre.length, v)) w := by
    cases h9 : es.toList with
    | nil => rw [h9] at he; simp [kvp] at he
    | cons e l => rw [h9] at hfa; simp only [Instr.findKey, Sem.run_bind, run_underlying Try.underlying33, Result.andThen_ok, Instr.findNow, Instr.sameNow]; exact hfa
  have hck : (Instr.checkKey es.isEmpty 10000 33 (.agg n.cells.toArray)).run Try.prog w = .ok () w := ck33 es.isEmpty 9998 n w
  refine ⟨_, ?_, h.upd hi (kv' := kvp (pre ++ rest)) (es := es.eraseIdxIfInBounds pre.length) (ck := ck) ?_⟩
  · simp [Builtin.delete_, run_underlying Try.underlying78, MapKept.run_getObj_map hb, hck, hf, MapKept.run_setObj_map _ hb, Result.andThen]
  · rw [Array.toList_eraseIdxIfInBounds]
    have h2 : (es.toList.map (fun e => (e.key, e.val))).eraseIdx pre.length = kvp (pre ++ rest) := by
      rw [he, kvp, List.map_append, List.map_cons]
      have := erase_mid (pre.map fun p => ((.agg p.1.cells.toArray : Value), p.2)) (.agg n.cells.toArray, v) (rest.map fun p => ((.agg p.1.cells.toArray : Value), p.2))
      rw [List.length_map] at this
      rw [this, kvp, List.map_append]
    rw [← h2, map_erase]
section
variable {w0 w : World} {D : Nat → Prop} {L : List Ent} {ops : Array Oper} {Q : Exit → Act → World → Prop} {a : Act} {rest : List Oper}
theorem wl_delN {W : World} {E0 : Nat → Prop} {M : List (Nat × List (Value × Value))} {b : Nat} {pre post : List (Nd × Value)} {n : Nd} {v : Value} {dst : Option Tmp} {ty : TypeId} {m x : Operand} {pos : String} {af : Array Edge} {g : Option (Nat × Bool)}
    (hw : Region.wanted ⟨dst, .call { callee := .builtin .delete, args := #[m, x], argTypes := #[78, 33] }, ty, pos, af, g⟩ (yielded ops a.tmps) = true) (hm : a.eval m = .map (some b)) (hk : a.eval x = .agg n.cells.toArray) (h : Hg W E0 M L w) (i : Nat) (hi : M[i]? = some (b, kvp (pre ++ (n, v) :: post))) (hno : ∀ p ∈ pre, ¬ p.1 = n)
    (kk : ∀ w', Hg W E0 (M.set i (b, kvp (pre ++ post))) L w' → wpList Try.prog ops Q rest (a.put dst (.tuple #[])) w') : wpList Try.prog ops Q (⟨dst, .call { callee := .builtin .delete, args := #[m, x], argTypes := #[78, 33] }, ty, pos, af, g⟩ :: rest) a w := by
  obtain ⟨w', hr, h'⟩ := Hg_delN (ty := ty) h hi hno
  refine wl_run hw ?_ (kk w' h')
  simp only [execOp, resolve, invoke, builtin, Sem.run_bind, Sem.run_pure, Result.andThen_ok, List.map_toArray, List.map_cons, List.map_nil, hm, hk, hr]
theorem gDl {dst : Option Tmp} {ty : TypeId} {m x : Operand} {ts : Array TypeId} {pos : String} {af : Array Edge} {g : Option (Nat × Bool)}
    (k : wpList Try.prog ops Q (⟨dst, .call { callee := .builtin .delete, args := #[m, x], argTypes := ts }, ty, pos, af, g⟩ :: rest) a w) : wpList Try.prog ops Q (⟨dst, .call { callee := .builtin .delete, args := #[m, x], argTypes := ts }, ty, pos, af, g⟩ :: rest) a w := k
end
end Go.Proofs.Ytebecelhcpljaaa
