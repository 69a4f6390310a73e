/- Layer 15: what a net is, as plain data, and what each act makes of it. No program in sight. -/
import Derived.Test.YtajconlnacbmjaaGxRegionS
set_option linter.unusedVariables false
set_option linter.unusedSimpArgs false
namespace Go.Gx.Net
open Go.Gx Go.RowKit

structure Pk where
  id : Int
  src : Int
  dst : Int
  body : ByteArray
  held : Int
def Pk.cells (p : Pk) : List Value := [.int .i64 p.id, .int .i64 p.src, .int .i64 p.dst, .string p.body, .int .i64 p.held]
def Pk.zero : Pk := ⟨0, 0, 0, ⟨#[]⟩, 0⟩
def rows (l : List Pk) : List Value := l.flatMap Pk.cells
theorem rows_length (l : List Pk) : (rows l).length = l.length * 5 := by
  induction l with
  | nil => rfl
  | cons x l ih => simp only [rows, List.flatMap_cons, List.length_append, List.length_cons] at *; rw [ih]; simp [Pk.cells]; omega
theorem rows_append (l m : List Pk) : rows (l ++ m) = rows l ++ rows m := by simp [rows]
theorem rows_one (l : List Pk) : (rows l).all (·.oneCell') = true := by
  simp [rows, Pk.cells, List.all_flatMap, Value.oneCell']
theorem rows_drop (l : List Pk) : ∀ k, (rows l).drop (k * 5) = rows (l.drop k) := by
  induction l with
  | nil => intro k; simp [rows]
  | cons x l ih =>
    intro k
    cases k with
    | zero => simp
    | succ k =>
      have : rows (x :: l) = x.cells ++ rows l := by simp [rows]
      rw [this, List.drop_append, List.drop_succ_cons, ← ih k, List.drop_of_length_le (by simp [Pk.cells]; omega), List.nil_append]
      congr 1; simp [Pk.cells]; omega
theorem rows_take (l : List Pk) : ∀ k, (rows l).take (k * 5) = rows (l.take k) := by
  induction l with
  | nil => intro k; simp [rows]
  | cons x l ih =>
    intro k
    cases k with
    | zero => simp [rows]
    | succ k =>
      have : rows (x :: l) = x.cells ++ rows l := by simp [rows]
      rw [this, List.take_append, List.take_succ_cons, List.take_of_length_le (by simp [Pk.cells]; omega)]
      have e : (k + 1) * 5 - x.cells.length = k * 5 := by simp [Pk.cells]; omega
      rw [e, ih k]; simp [rows]
theorem rows_at {l : List Pk} {k : Nat} {p : Pk} (h : l[k]? = some p) : ((rows l).drop (k * 5)).take 5 = p.cells := by
  rw [rows_drop]
  obtain ⟨hlt, rfl⟩ := List.getElem?_eq_some_iff.1 h
  rw [List.drop_eq_getElem_cons hlt]
  have : rows (l[k] :: l.drop (k + 1)) = l[k].cells ++ rows (l.drop (k + 1)) := List.flatMap_cons
  rw [this]; simp [Pk.cells]
theorem rows_set {l : List Pk} {k : Nat} {p : Pk} (h : k < l.length) : lay (rows l) (k * 5) p.cells = rows (l.set k p) := by
  unfold lay
  have e : k * 5 + p.cells.length = (k + 1) * 5 := by simp [Pk.cells]; omega
  rw [e, rows_take, rows_drop, List.set_eq_take_append_cons_drop, if_pos h, rows_append]
  simp [rows]

def sEq (s t : ByteArray) : Bool := s.toList == t.toList
theorem sEq_iff {s t : ByteArray} : sEq s t = true ↔ s = t := by
  unfold sEq
  rw [beq_iff_eq, ByteArray.toList_eq, ByteArray.toList_eq]
  obtain ⟨⟨x⟩⟩ := s
  obtain ⟨⟨y⟩⟩ := t
  simp
theorem txt_iff {s t : ByteArray} : s.toList = t.toList ↔ s = t := by
  rw [← beq_iff_eq]; exact sEq_iff
def Pk.beq (p q : Pk) : Bool := p.id == q.id && p.src == q.src && p.dst == q.dst && sEq p.body q.body && p.held == q.held
theorem Pk.beq_iff {l m : Pk} : l.beq m = true ↔ l = m := by
  obtain ⟨a, b, c, d, e⟩ := l; obtain ⟨a', b', c', d', e'⟩ := m
  simp [Pk.beq, sEq_iff, and_assoc]

structure St where
  fl : List Pk
  hd : List Pk
  last : Int
  cut : Nat → Bool
  sent : Nat → Int
  came : Nat → Int
def netC (vf vh : Value) (s : St) : List Value :=
  [vf, vh, .int .i64 s.last, .bool (s.cut 0), .bool (s.cut 1), .bool (s.cut 2), .bool (s.cut 3), .bool (s.cut 4), .bool (s.cut 5), .bool (s.cut 6), .bool (s.cut 7), .bool (s.cut 8),
    .int .i64 (s.sent 0), .int .i64 (s.sent 1), .int .i64 (s.sent 2), .int .i64 (s.sent 3), .int .i64 (s.sent 4), .int .i64 (s.sent 5), .int .i64 (s.sent 6), .int .i64 (s.sent 7), .int .i64 (s.sent 8),
    .int .i64 (s.came 0), .int .i64 (s.came 1), .int .i64 (s.came 2), .int .i64 (s.came 3), .int .i64 (s.came 4), .int .i64 (s.came 5), .int .i64 (s.came 6), .int .i64 (s.came 7), .int .i64 (s.came 8)]
/-- a net in memory: the struct p of type tn, and its two rows -/
abbrev eN (tn : TypeId) (p : Nat) (af ah : Option Nat) (cf ch : Nat) (s : St) : Ent := ⟨some p, netC (.slice (adr af 0) s.fl.length cf) (.slice (adr ah 0) s.hd.length ch) s, tn, 30⟩
abbrev eR (a : Option Nat) (c : Nat) (l : List Pk) : Ent := ⟨a, rows l, 35, c * 5⟩
def St.zero : St := ⟨[], [], 0, fun _ => false, fun _ => 0, fun _ => 0⟩
def upd {α : Type} (f : Nat → α) (i : Nat) (v : α) : Nat → α := fun j => if j = i then v else f j
def inc (x : Int) : Int := wrap64 (x + 1)
def linkB (a b : Int) : Bool := decide (0 ≤ a) && decide (a < 3) && decide (0 ≤ b) && decide (b < 3) && decide (a ≠ b)
def at2 (a b : Int) : Nat := (a * 3 + b).toNat
theorem link_cases {a b : Int} (h : linkB a b = true) : (a = 0 ∧ b = 1) ∨ (a = 0 ∧ b = 2) ∨ (a = 1 ∧ b = 0) ∨ (a = 1 ∧ b = 2) ∨ (a = 2 ∧ b = 0) ∨ (a = 2 ∧ b = 1) := by
  simp only [linkB, Bool.and_eq_true, decide_eq_true_eq] at h
  omega
def placeB (s : St) (i : Int) : Bool := decide (0 ≤ i) && decide (i < s.fl.length)

def St.fly (s : St) (p : Pk) : St := { s with last := inc s.last, fl := s.fl ++ [{ p with id := inc s.last, held := 0 }] }
def St.sendOk (s : St) (a b : Int) (t : ByteArray) : St :=
  { s.fly ⟨0, a, b, t, 0⟩ with hd := s.hd ++ [⟨inc s.last, a, b, t, 0⟩], sent := upd s.sent (at2 a b) (inc (s.sent (at2 a b))) }
def St.send (s : St) (a b : Int) (t : ByteArray) : St × Int × Int :=
  if linkB a b = false then (s, 0, 150) else if 4096 < t.size then (s, 0, 1) else if 1024 ≤ s.fl.length ∨ 65536 ≤ s.hd.length then (s, 0, 6)
  else (s.sendOk a b t, inc s.last, 0)
def St.pk (s : St) (i : Int) : Pk := s.fl.getD i.toNat Pk.zero
def St.ready (s : St) (i : Int) : Int :=
  if placeB s i = false then 7 else if 0 < (s.pk i).held then 152 else if s.cut (at2 (s.pk i).src (s.pk i).dst) = true then 151 else 0
def St.out (s : St) (i : Int) : St := { s with fl := s.fl.eraseIdx i.toNat }
def St.deliver (s : St) (i : Int) : St × Pk × Int :=
  if s.ready i ≠ 0 then (s, Pk.zero, s.ready i)
  else ({ s.out i with came := upd s.came (at2 (s.pk i).src (s.pk i).dst) (inc (s.came (at2 (s.pk i).src (s.pk i).dst))) }, s.pk i, 0)
def St.drop (s : St) (i : Int) : St × Int := if placeB s i = false then (s, 7) else (s.out i, 0)
def St.double (s : St) (i : Int) : St × Int × Int :=
  if placeB s i = false then (s, 0, 7) else if 1024 ≤ s.fl.length then (s, 0, 6) else (s.fly (s.pk i), inc s.last, 0)
def St.move (s : St) (i j : Int) : St × Int :=
  if placeB s i = false ∨ placeB s j = false then (s, 7) else ({ s with fl := (s.fl.eraseIdx i.toNat).insertIdx j.toNat (s.pk i) }, 0)
def St.hold (s : St) (i n : Int) : St × Int :=
  if placeB s i = false then (s, 7) else if n < 0 ∨ 1000 < n then (s, 2) else ({ s with fl := s.fl.set i.toNat { s.pk i with held := n } }, 0)
def St.tick (s : St) : St := { s with fl := s.fl.map fun p => { p with held := max (p.held - 1) 0 } }
def St.cutS (s : St) (a b : Int) (c : Bool) : St × Int := if linkB a b = false then (s, 150) else ({ s with cut := upd (upd s.cut (at2 a b) c) (at2 b a) c }, 0)
/-- each packet that flies or was heard has a link, and is held for no long time -/
def St.ok (s : St) : Prop := ∀ p ∈ s.fl, linkB p.src p.dst = true ∧ 0 ≤ p.held ∧ p.held ≤ 1000
end Go.Gx.Net
