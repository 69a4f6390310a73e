/- Layer 5: nodes, terms and pools as plain data, and what each act makes of them. No program in sight. -/
import Derived.Test.YtebecelhcpljaaaGxRegionS
set_option linter.unusedVariables false
set_option linter.unusedSimpArgs false
namespace Go.Gx.Trm
open Go.Gx Go.RowKit

structure Nd where
  kind : Int
  frm : Int
  dst : Int
  num : Int
  text : ByteArray
  a : Int
  b : Int
def Nd.cells (n : Nd) : List Value := [.int .i64 n.kind, .int .i64 n.frm, .int .i64 n.dst, .int .u64 n.num, .string n.text, .int .i64 n.a, .int .i64 n.b]
def Nd.zero : Nd := ⟨0, 0, 0, 0, ⟨#[]⟩, 0, 0⟩
structure En where
  n : Nd
  size : Int
  deep : Int
def En.cells (e : En) : List Value := e.n.cells ++ [.int .i64 e.size, .int .i64 e.deep]
def sEq (s t : ByteArray) : Bool := s.toList == t.toList
theorem sEq_iff {s t : ByteArray} : sEq s t = true ↔ s = t := by
  unfold sEq
  rw [beq_iff_eq, ByteArray.toList_eq, ByteArray.toList_eq]
  obtain ⟨⟨x⟩⟩ := s
  obtain ⟨⟨y⟩⟩ := t
  simp
def Nd.beq (p q : Nd) : Bool := p.kind == q.kind && p.frm == q.frm && p.dst == q.dst && p.num == q.num && sEq p.text q.text && p.a == q.a && p.b == q.b
theorem Nd.beq_iff {l m : Nd} : l.beq m = true ↔ l = m := by
  obtain ⟨a, b, c, d, e, f, g⟩ := l; obtain ⟨a', b', c', d', e', f', g'⟩ := m
  simp [Nd.beq, sEq_iff, and_assoc]
def rowsN (l : List Nd) : List Value := l.flatMap Nd.cells
def rowsE (l : List En) : List Value := l.flatMap En.cells
theorem rowsN_length (l : List Nd) : (rowsN l).length = l.length * 7 := by
  induction l with
  | nil => rfl
  | cons x l ih => simp only [rowsN, List.flatMap_cons, List.length_append, List.length_cons] at *; rw [ih]; simp [Nd.cells]; omega
theorem rowsE_length (l : List En) : (rowsE l).length = l.length * 9 := by
  induction l with
  | nil => rfl
  | cons x l ih => simp only [rowsE, List.flatMap_cons, List.length_append, List.length_cons] at *; rw [ih]; simp [En.cells, Nd.cells]; omega
theorem rowsN_snoc (l : List Nd) (n : Nd) : rowsN l ++ n.cells = rowsN (l ++ [n]) := by simp [rowsN]
theorem rowsE_snoc (l : List En) (n : En) : rowsE l ++ n.cells = rowsE (l ++ [n]) := by simp [rowsE]
theorem rowsN_drop (l : List Nd) : ∀ k, (rowsN l).drop (k * 7) = rowsN (l.drop k) := by
  induction l with
  | nil => intro k; simp [rowsN]
  | cons x l ih =>
    intro k
    cases k with
    | zero => simp
    | succ k =>
      have : rowsN (x :: l) = x.cells ++ rowsN l := by simp [rowsN]
      rw [this, List.drop_append, List.drop_succ_cons, ← ih k, List.drop_of_length_le (by simp [Nd.cells]; omega), List.nil_append]
      congr 1; simp [Nd.cells]; omega
theorem rowsE_drop (l : List En) : ∀ k, (rowsE l).drop (k * 9) = rowsE (l.drop k) := by
  induction l with
  | nil => intro k; simp [rowsE]
  | cons x l ih =>
    intro k
    cases k with
    | zero => simp
    | succ k =>
      have : rowsE (x :: l) = x.cells ++ rowsE l := by simp [rowsE]
      rw [this, List.drop_append, List.drop_succ_cons, ← ih k, List.drop_of_length_le (by simp [En.cells, Nd.cells]; omega), List.nil_append]
      congr 1; simp [En.cells, Nd.cells]; omega
theorem rowsN_at {l : List Nd} {k : Nat} {p : Nd} (h : l[k]? = some p) : ((rowsN l).drop (k * 7)).take 7 = p.cells := by
  rw [rowsN_drop]
  obtain ⟨hlt, rfl⟩ := List.getElem?_eq_some_iff.1 h
  rw [List.drop_eq_getElem_cons hlt]
  have : rowsN (l[k] :: l.drop (k + 1)) = l[k].cells ++ rowsN (l.drop (k + 1)) := List.flatMap_cons
  rw [this]; simp [Nd.cells]
/-- the rows of an entry, from its place on -/
theorem rowsE_at {l : List En} {k : Nat} {p : En} (h : l[k]? = some p) : ∃ r, (rowsE l).drop (k * 9) = p.n.cells ++ (.int .i64 p.size :: .int .i64 p.deep :: r) := by
  rw [rowsE_drop]
  obtain ⟨hlt, rfl⟩ := List.getElem?_eq_some_iff.1 h
  rw [List.drop_eq_getElem_cons hlt]
  have : rowsE (l[k] :: l.drop (k + 1)) = l[k].cells ++ rowsE (l.drop (k + 1)) := List.flatMap_cons
  exact ⟨rowsE (l.drop (k + 1)), by rw [this]; simp [En.cells]⟩
theorem rowsE_node {l : List En} {k : Nat} {p : En} (h : l[k]? = some p) : ((rowsE l).drop (k * 9)).take 7 = p.n.cells := by
  obtain ⟨r, hr⟩ := rowsE_at h; rw [hr]; simp [Nd.cells]
theorem rowsE_size {l : List En} {k : Nat} {p : En} (h : l[k]? = some p) : (rowsE l)[k * 9 + 7]? = some (.int .i64 p.size) := by
  obtain ⟨r, hr⟩ := rowsE_at h
  rw [show k * 9 + 7 = k * 9 + 7 from rfl, ← List.getElem?_drop, hr]; simp [Nd.cells]
theorem rowsE_deep {l : List En} {k : Nat} {p : En} (h : l[k]? = some p) : (rowsE l)[k * 9 + 8]? = some (.int .i64 p.deep) := by
  obtain ⟨r, hr⟩ := rowsE_at h
  rw [← List.getElem?_drop, hr]; simp [Nd.cells]

/-! ### kinds -/
def two (k : Int) : Bool := k == 8 || k == 9
def named (k : Int) : Bool := k == 1 || k == 6 || k == 7 || two k
def kidsN (k : Int) : Int := if k = 4 then 2 else if k = 5 ∨ k = 7 ∨ k = 8 ∨ k = 9 then 1 else 0
def kOk (k : Int) : Bool := decide (1 ≤ k) && decide (k ≤ 9)
def shRow (k : Int) : List Value := if kOk k then [.bool (named k), .bool (two k), .bool (k == 2), .bool (k == 3), .int .i64 (kidsN k)] else [.bool false, .bool false, .bool false, .bool false, .int .i64 0]
def shAll : List Value := [0, 1, 2, 3, 4, 5, 6, 7, 8, 9].flatMap shRow
theorem kidsN_le (k : Int) : 0 ≤ kidsN k ∧ kidsN k ≤ 2 := by unfold kidsN; split <;> (try split) <;> omega
def nm (n : Int) : Bool := decide (0 ≤ n) && decide (n < 16)
/-- are the fields that a kind does not have zero: those of its own -/
def own (n : Nd) : Bool := kOk n.kind && (named n.kind || n.frm == 0) && (two n.kind || n.dst == 0) && (n.kind == 2 || n.num == 0) && (n.kind == 3 || sEq n.text ⟨#[]⟩)
/-- .. and those of its kids -/
def plainN (n : Nd) : Bool := own n && (decide (1 ≤ kidsN n.kind) || n.a == 0) && (kidsN n.kind == 2 || n.b == 0)
def namesE (n : Nd) : Bool := (named n.kind && !nm n.frm) || (two n.kind && (!nm n.dst || n.frm == n.dst))
def fieldsE (n : Nd) : Int := if namesE n then 50 else if 64 < n.text.size then 1 else 0
def shapeE (n : Nd) : Int := if plainN n then fieldsE n else 53

/-! ### a pool -/
def inP (l : List En) (t : Int) : Bool := decide (1 ≤ t) && decide (t ≤ l.length)
def entP (l : List En) (t : Int) : Option En := if inP l t then l[(t - 1).toNat]? else none
def sizeP (l : List En) (t : Int) : Int := match entP l t with | some e => e.size | none => 0
def deepP (l : List En) (t : Int) : Int := match entP l t with | some e => e.deep | none => 0
theorem entP_in {l : List En} {t : Int} (h : inP l t = true) : ∃ (k : Nat) (e : En), t = (k : Int) + 1 ∧ k < l.length ∧ l[k]? = some e ∧ entP l t = some e := by
  have h' := h
  unfold inP at h'
  simp only [Bool.and_eq_true, decide_eq_true_eq] at h'
  obtain ⟨k, hk⟩ : ∃ k : Nat, t = (k : Int) + 1 := ⟨(t - 1).toNat, by omega⟩
  have hkl : k < l.length := by omega
  refine ⟨k, l[k], hk, hkl, List.getElem?_eq_getElem hkl, ?_⟩
  unfold entP
  rw [if_pos h, hk]
  simp [hkl]
theorem entP_no {l : List En} {t : Int} (h : inP l t = false) : entP l t = none := by unfold entP; simp [h]
def findN : List En → Nd → Nat → Option Nat
  | [], _, _ => none
  | e :: l, n, i => if e.n.beq n then some i else findN l n (i + 1)
/-- error, size and depth of a node -/
def missE (l : List En) (n : Nd) : Bool := (decide (1 ≤ kidsN n.kind) && !inP l n.a) || (kidsN n.kind == 2 && !inP l n.b)
def bigS (l : List En) (n : Nd) : Int := 1 + sizeP l n.a + sizeP l n.b
def bigD (l : List En) (n : Nd) : Int := 1 + max (deepP l n.a) (deepP l n.b)
def checkE (l : List En) (n : Nd) : Int := if shapeE n ≠ 0 then shapeE n else if missE l n then 51 else if 4096 < bigS l n ∨ 64 < bigD l n then 52 else 0
def makeE (l : List En) (n : Nd) : List En × Int × Int :=
  if checkE l n ≠ 0 then (l, 0, checkE l n) else
  match findN l n 0 with
  | some i => (l, (i : Int) + 1, 0)
  | none => if 65536 ≤ l.length then (l, 0, 6) else (l ++ [⟨n, bigS l n, bigD l n⟩], (l.length : Int) + 1, 0)
/-- what every pool is: sizes and depths in their bounds -/
def okP (l : List En) : Prop := ∀ (i : Nat) (e : En), l[i]? = some e → 1 ≤ e.size ∧ e.size ≤ 4096 ∧ 1 ≤ e.deep ∧ e.deep ≤ 64
theorem sizeP_le {l : List En} (h : okP l) (t : Int) : 0 ≤ sizeP l t ∧ sizeP l t ≤ 4096 := by
  cases hi : inP l t with
  | false => simp [sizeP, entP_no hi]
  | true =>
    obtain ⟨k, e, _, _, h1, h2⟩ := entP_in hi
    have := h k e h1
    simp only [sizeP, h2]; omega
theorem deepP_le {l : List En} (h : okP l) (t : Int) : 0 ≤ deepP l t ∧ deepP l t ≤ 64 := by
  cases hi : inP l t with
  | false => simp [deepP, entP_no hi]
  | true =>
    obtain ⟨k, e, _, _, h1, h2⟩ := entP_in hi
    have := h k e h1
    simp only [deepP, h2]; omega
theorem okP_nil : okP [] := by intro i e h; simp at h
theorem okP_make {l : List En} {n : Nd} (h : okP l) : okP (makeE l n).1 := by
  unfold makeE
  split
  · exact h
  rename_i hc
  split
  · exact h
  split
  · exact h
  intro i e hi
  rw [List.getElem?_append] at hi
  split at hi
  · exact h i e hi
  · have hi : ([⟨n, bigS l n, bigD l n⟩] : List En)[i - l.length]? = some e := hi
    obtain ⟨hl, he⟩ := List.getElem?_eq_some_iff.1 hi
    have h0 : i - l.length = 0 := by simpa using hl
    simp only [h0, List.getElem_cons_zero] at he
    subst he
    have hc : checkE l n = 0 := by simpa using hc
    have a1 := sizeP_le h n.a; have a2 := sizeP_le h n.b
    have b1 := deepP_le h n.a; have b2 := deepP_le h n.b
    have hb : ¬ (4096 < bigS l n ∨ 64 < bigD l n) := by
      intro hh
      unfold checkE at hc
      split at hc
      · rename_i h3; exact h3 hc
      split at hc
      · omega
      first | omega | (rw [if_pos hh] at hc; omega)
    simp only [bigS, bigD] at *
    refine ⟨?_, ?_, ?_, ?_⟩ <;> omega
end Go.Gx.Trm
