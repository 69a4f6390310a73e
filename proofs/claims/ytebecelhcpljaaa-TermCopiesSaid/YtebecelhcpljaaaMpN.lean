/- Maps whose keys are nodes, beside Hp. -/
import Derived.Test.YtebecelhcpljaaaTab
import Derived.Test.YtebecelhcpljaaaGxMpG
set_option linter.unusedVariables false
set_option linter.unusedSimpArgs false
namespace Go.Proofs.Ytebecelhcpljaaa
open Go.RowKit Go.Gx Go.Gx.Trm Go.MapKept
set_option maxRecDepth 100000
theorem ck3 (em : Bool) (d : Nat) (k : Int) (w : World) : (Instr.checkKey em (d + 1) 3 (.int .i64 k)).run Try.prog w = .ok () w := by simp [Instr.checkKey, run_underlying Try.underlying3]
theorem ck31 (em : Bool) (d : Nat) (k : Int) (w : World) : (Instr.checkKey em (d + 1) 31 (.int .u64 k)).run Try.prog w = .ok () w := by simp [Instr.checkKey, run_underlying Try.underlying31]
theorem ck28 (em : Bool) (d : Nat) (k : Int) (w : World) : (Instr.checkKey em (d + 1) 28 (.int .i64 k)).run Try.prog w = .ok () w := by simp [Instr.checkKey, run_underlying Try.underlying28]
theorem ck9 (em : Bool) (d : Nat) (k : ByteArray) (w : World) : (Instr.checkKey em (d + 1) 9 (.string k)).run Try.prog w = .ok () w := by simp [Instr.checkKey, run_underlying Try.underlying9]
theorem ck33 (em : Bool) (d : Nat) (n : Nd) (w : World) : (Instr.checkKey em (d + 2) 33 (.agg n.cells.toArray)).run Try.prog w = .ok () w := by
  obtain ⟨a, b, c, t, f, g, h⟩ := n
  simp only [Nd.cells]
  unfold Instr.checkKey
  go_simp
  simp [ck3, ck31, ck28, ck9, Result.andThen]
theorem eqN (n m : Nd) (w : World) : (Op.equal 33 (.agg n.cells.toArray) (.agg m.cells.toArray)).run Try.prog w = .ok (n.beq m) w := eq33 9998 n m w
/-- the map of a pool: each node's number -/
def kvF : List En → Nat → List (Value × Value)
  | [], _ => []
  | e :: l, i => (.agg e.n.cells.toArray, .int .i64 ((i : Int) + 1)) :: kvF l (i + 1)
theorem kvF_snoc (e : En) : ∀ (l : List En) (i : Nat), kvF (l ++ [e]) i = kvF l i ++ [(.agg e.n.cells.toArray, .int .i64 (((i + l.length : Nat) : Int) + 1))]
  | [], i => by simp [kvF]
  | x :: l, i => by
    have ih := kvF_snoc e l (i + 1)
    simp only [List.cons_append, kvF, ih, List.length_cons]
    rw [show i + 1 + l.length = i + (l.length + 1) by omega]
def numOf (r : Option Nat) : Option Value := r.map fun (k : Nat) => Value.int .i64 ((k : Int) + 1)
theorem find_N (n : Nd) (w : World) : ∀ (es : List MapEntry) (l : List En) (i j : Nat), es.map (fun e => (e.key, e.val)) = kvF l i →
    ∃ r, (Instr.findAsking 33 (.agg n.cells.toArray) es j).run Try.prog w = .ok r w ∧ r.map (·.2) = numOf (findN l n i)
  | [], l, i, j, h => by
    cases l with
    | nil => exact ⟨none, by simp [Instr.findAsking], rfl⟩
    | cons e l => cases h
  | x :: es, l, i, j, h => by
    cases l with
    | nil => cases h
    | cons e l =>
      simp only [kvF, List.map_cons, List.cons.injEq, Prod.mk.injEq] at h
      obtain ⟨⟨h1, h2⟩, h3⟩ := h
      have hb : e.n.beq n = n.beq e.n := by
        cases h5 : e.n.beq n with
        | true => have h6 := Nd.beq_iff.1 h5; rw [h6]; exact (Nd.beq_iff.2 rfl).symm
        | false =>
          cases h6 : n.beq e.n with
          | false => rfl
          | true => have := Nd.beq_iff.1 h6; rw [this] at h5; rw [Nd.beq_iff.2 rfl] at h5; cases h5
      cases hk : n.beq e.n with
      | true =>
        refine ⟨some (j, x.val), ?_, ?_⟩
        · simp [Instr.findAsking, h1, eqN, hk, Result.andThen]
        · simp only [findN, hb, hk, if_true, numOf, Option.map_some, h2]
      | false =>
        obtain ⟨r, g1, g2⟩ := find_N n w es l (i + 1) (j + 1) h3
        refine ⟨r, ?_, ?_⟩
        · simp [Instr.findAsking, h1, eqN, hk, Result.andThen, g1]
        · simp only [findN, hb, hk]; exact g2
theorem run_findKeyN {w : World} {n : Nd} {es : List MapEntry} {l : List En} {i : Nat} (h : es.map (fun e => (e.key, e.val)) = kvF l i) :
    ∃ r, (Instr.findKey 33 (.agg n.cells.toArray) es).run Try.prog w = .ok r w ∧ r.map (·.2) = numOf (findN l n i) := by
  obtain ⟨r, g1, g2⟩ := find_N n w es l i 0 h
  refine ⟨r, ?_, g2⟩
  cases es with
  | nil => simp [Instr.findAsking] at g1; subst g1; simp [Instr.findKey, run_underlying Try.underlying33, Instr.findNow]
  | cons e es => simp only [Instr.findKey, Sem.run_bind, run_underlying Try.underlying33, Result.andThen_ok, Instr.findNow, Instr.sameNow]; exact g1
theorem run_lookN {w : World} {b : Nat} {l : List En} {n : Nd} (hm : mapG w b (kvF l 0)) :
    (Instr.lookup 78 (.map (some b)) (.agg n.cells.toArray) true).run Try.prog w = .ok (.tuple #[(numOf (findN l n 0)).getD (.int .i64 0), .bool (findN l n 0).isSome]) w := by
  obtain ⟨es, ck, hb, he⟩ := hm
  obtain ⟨r, h1, h2⟩ := run_findKeyN (w := w) (n := n) he
  have hck : (Instr.checkKey es.isEmpty 10000 33 (.agg n.cells.toArray)).run Try.prog w = .ok () w := ck33 es.isEmpty 9998 n w
  cases r with
  | none =>
    have h3 : findN l n 0 = none := by cases h : findN l n 0 <;> simp [h, numOf] at h2 ⊢
    simp [Instr.lookup, run_underlying Try.underlying78, MapKept.run_getObj_map hb, hck, h1, run_zero Z28, Result.andThen, h3, numOf]
  | some p =>
    obtain ⟨j, v⟩ := p
    obtain ⟨k, h3⟩ : ∃ k, findN l n 0 = some k := by cases h : findN l n 0 with | none => simp [h, numOf] at h2 | some k => exact ⟨k, rfl⟩
    simp only [h3, numOf, Option.map_some, Option.some.injEq] at h2
    simp [Instr.lookup, run_underlying Try.underlying78, MapKept.run_getObj_map hb, hck, h1, Result.andThen, h3, numOf, h2]
theorem Hg_storeN {W w : World} {D : Nat → Prop} {L : List Ent} {M : List (Nat × List (Value × Value))} {b : Nat} {l : List En} (h : Hg W D M L w) {i : Nat} (hi : M[i]? = some (b, kvF l 0)) {e : En} (hno : findN l e.n 0 = none) :
    ∃ w', (Instr.mapUpdate 78 (.map (some b)) (.agg e.n.cells.toArray) (.int .i64 ((l.length : Int) + 1))).run Try.prog w = .ok () w' ∧ Hg W D (M.set i (b, kvF (l ++ [e]) 0)) L w' := by
  obtain ⟨es, ck, hb, he⟩ := h.map hi
  obtain ⟨r, h1, h2⟩ := run_findKeyN (w := w) (n := e.n) he
  have hck : (Instr.checkKey false 10000 33 (.agg e.n.cells.toArray)).run Try.prog w = .ok () w := ck33 false 9998 e.n w
  rw [hno] at h2
  have h3 : r = none := by cases r <;> simp [numOf] at h2 ⊢
  subst h3
  refine ⟨_, ?_, h.upd hi (kv' := kvF (l ++ [e]) 0) (es := es.push { key := .agg e.n.cells.toArray, val := .int .i64 ((l.length : Int) + 1), born := ck }) (ck := ck + 1) ?_⟩
  · simp [Instr.mapUpdate, run_underlying Try.underlying78, MapKept.run_getObj_map hb, hck, h1, MapKept.run_setObj_map _ hb, Result.andThen]
  · have he2 : es.toList.map (fun e => (e.key, e.val)) = kvF l 0 := he
    rw [kvF_snoc]
    simp only [Array.toList_push, List.map_append, he2, List.map_cons, List.map_nil, Nat.zero_add]
section
variable {w0 w : World} {D : Nat → Prop} {L : List Ent} {ops : Array Oper} {Q : Exit → Act → World → Prop} {a : Act} {rest : List Oper}
theorem wl_lookN {b : Nat} {l : List En} {n : Nd} {r : Option Nat} {dst : Option Tmp} {ty : TypeId} {m x : Operand} {pos : String} {af : Array Edge} {g : Option (Nat × Bool)}
    (hw : Region.wanted ⟨dst, .lookup 78 m x true, ty, pos, af, g⟩ (yielded ops a.tmps) = true) (hx : a.eval m = .map (some b)) (hk : a.eval x = .agg n.cells.toArray)
    (hm : mapG w b (kvF l 0)) (hr : findN l n 0 = r)
    (h : wpList Try.prog ops Q rest (a.put dst (.tuple #[(numOf r).getD (.int .i64 0), .bool r.isSome])) w) : wpList Try.prog ops Q (⟨dst, .lookup 78 m x true, ty, pos, af, g⟩ :: rest) a w := by
  subst hr
  exact wl_run hw (by simp only [execOp, hx, hk]; simp only [Sem.run_bind, run_lookN hm, Result.andThen_ok, Sem.run_pure]) h
theorem wl_mapUpN {W : World} {E0 : Nat → Prop} {M : List (Nat × List (Value × Value))} {b : Nat} {l : List En} {e : En} {dst : Option Tmp} {ty : TypeId} {m x va : Operand} {pos : String} {af : Array Edge} {g : Option (Nat × Bool)}
    (hw : Region.wanted ⟨dst, .mapUpdate 78 m x va, ty, pos, af, g⟩ (yielded ops a.tmps) = true) (hm : a.eval m = .map (some b)) (hk : a.eval x = .agg e.n.cells.toArray) (hv : a.eval va = .int .i64 ((l.length : Int) + 1)) (h : Hg W E0 M L w) (i : Nat) (hi : M[i]? = some (b, kvF l 0))
    (hno : findN l e.n 0 = none)
    (kk : ∀ w', Hg W E0 (M.set i (b, kvF (l ++ [e]) 0)) L w' → wpList Try.prog ops Q rest (a.put dst undef) w') : wpList Try.prog ops Q (⟨dst, .mapUpdate 78 m x va, ty, pos, af, g⟩ :: rest) a w := by
  obtain ⟨w', hr, h'⟩ := Hg_storeN h hi hno
  exact wl_skip hw (by simp only [execOp, hm, hk, hv, Sem.run_bind, Sem.run_pure, Result.andThen_ok, hr]) (kk w' h')
end
end Go.Proofs.Ytebecelhcpljaaa
