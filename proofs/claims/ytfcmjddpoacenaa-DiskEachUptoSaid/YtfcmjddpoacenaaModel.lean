/- Layer 2: what a disk is, as plain data, and what each act makes of it. No program in sight. -/
import Derived.Test.YtfcmjddpoacenaaGxHeap
set_option linter.unusedVariables false
set_option linter.unusedSimpArgs false
namespace Go.Gx.Dsk
open Go.Gx Go.RowKit

/-- a write -/
structure Wr where
  at_ : Int
  blk : ByteArray
def Wr.cells (x : Wr) : List Value := [.int .i64 x.at_, .string x.blk]
def wrs (l : List Wr) : List Value := l.flatMap Wr.cells
def strs (l : List ByteArray) : List Value := l.map .string
@[simp] theorem strs_length (l : List ByteArray) : (strs l).length = l.length := by simp [strs]
theorem strs_one (l : List ByteArray) : (strs l).all (·.oneCell') = true := by simp [strs, Value.oneCell']
theorem strs_at {l : List ByteArray} {k : Nat} {p : ByteArray} (h : l[k]? = some p) : (strs l)[k]? = some (.string p) := by simp [strs, h]
theorem strs_set (l : List ByteArray) (k : Nat) (s : ByteArray) : (strs l).set k (.string s) = strs (l.set k s) := by simp [strs]
theorem strs_append (l m : List ByteArray) : strs (l ++ m) = strs l ++ strs m := by simp [strs]
theorem wrs_length (l : List Wr) : (wrs l).length = l.length * 2 := by
  induction l with
  | nil => rfl
  | cons x l ih => simp only [wrs, List.flatMap_cons, List.length_append, List.length_cons] at *; rw [ih]; simp [Wr.cells]; omega
theorem wrs_append (l m : List Wr) : wrs (l ++ m) = wrs l ++ wrs m := by simp [wrs]
theorem wrs_one (l : List Wr) : (wrs l).all (·.oneCell') = true := by
  simp [wrs, Wr.cells, List.all_flatMap, Value.oneCell']
theorem wrs_drop (l : List Wr) : ∀ k, (wrs l).drop (k * 2) = wrs (l.drop k) := by
  induction l with
  | nil => intro k; simp [wrs]
  | cons x l ih =>
    intro k
    cases k with
    | zero => simp
    | succ k =>
      have : wrs (x :: l) = x.cells ++ wrs l := by simp [wrs]
      rw [this, List.drop_append, List.drop_succ_cons, ← ih k, List.drop_of_length_le (by simp [Wr.cells]; omega), List.nil_append]
      congr 1; simp [Wr.cells]; omega
theorem wrs_take (l : List Wr) : ∀ k, (wrs l).take (k * 2) = wrs (l.take k) := by
  induction l with
  | nil => intro k; simp [wrs]
  | cons x l ih =>
    intro k
    cases k with
    | zero => simp [wrs]
    | succ k =>
      have : wrs (x :: l) = x.cells ++ wrs l := by simp [wrs]
      rw [this, List.take_append, List.take_succ_cons, List.take_of_length_le (by simp [Wr.cells]; omega)]
      have e : (k + 1) * 2 - x.cells.length = k * 2 := by simp [Wr.cells]; omega
      rw [e, ih k]; simp [wrs]
theorem wrs_at {l : List Wr} {k : Nat} {p : Wr} (h : l[k]? = some p) : ((wrs l).drop (k * 2)).take 2 = p.cells := by
  rw [wrs_drop]
  obtain ⟨hlt, rfl⟩ := List.getElem?_eq_some_iff.1 h
  rw [List.drop_eq_getElem_cons hlt]
  have : wrs (l[k] :: l.drop (k + 1)) = l[k].cells ++ wrs (l.drop (k + 1)) := List.flatMap_cons
  rw [this]; simp [Wr.cells]
theorem wrs_set {l : List Wr} {k : Nat} {p : Wr} (h : k < l.length) : lay (wrs l) (k * 2) p.cells = wrs (l.set k p) := by
  unfold lay
  have e : k * 2 + p.cells.length = (k + 1) * 2 := by simp [Wr.cells]; omega
  rw [e, wrs_take, wrs_drop, List.set_eq_take_append_cons_drop, if_pos h, wrs_append]
  simp [wrs]

def sEq (s t : ByteArray) : Bool := s.toList == t.toList
theorem sEq_iff {s t : ByteArray} : sEq s t = true ↔ s = t := by
  unfold sEq
  rw [beq_iff_eq, ByteArray.toList_eq, ByteArray.toList_eq]
  obtain ⟨⟨x⟩⟩ := s
  obtain ⟨⟨y⟩⟩ := t
  simp
theorem txt_iff {s t : ByteArray} : s.toList = t.toList ↔ s = t := by rw [← beq_iff_eq]; exact sEq_iff
def Wr.beq (l m : Wr) : Bool := l.at_ == m.at_ && sEq l.blk m.blk
theorem Wr.beq_iff {l m : Wr} : l.beq m = true ↔ l = m := by
  obtain ⟨a, b⟩ := l; obtain ⟨a', b'⟩ := m
  simp [Wr.beq, sEq_iff]

/-- a disk -/
structure Dk where
  first : List ByteArray
  now : List ByteArray
  log : List Wr
  armed : Bool
  left : Int
  off : Bool
def dkC (f b l : Option Nat) (cf cb cl : Nat) (s : Dk) : List Value := [.slice (adr f 0) s.first.length cf, .slice (adr b 0) s.now.length cb, .slice (adr l 0) s.log.length cl, .bool s.armed, .int .i64 s.left, .bool s.off]
/-- the struct; a list of texts; a list of writes -/
def eD (t : TypeId) (p : Nat) (f b l : Option Nat) (cf cb cl : Nat) (s : Dk) : Ent := ⟨some p, dkC f b l cf cb cl s, t, 6⟩
def eS (a : Option Nat) (c : Nat) (l : List ByteArray) : Ent := ⟨a, strs l, 9, c⟩
def eW (a : Option Nat) (c : Nat) (l : List Wr) : Ent := ⟨a, wrs l, 50, c * 2⟩

def bmt : ByteArray := ⟨#[]⟩
def Dk.made (l : List ByteArray) : Dk := ⟨l, l, [], false, 0, false⟩
def tooLong (l : List ByteArray) : Bool := l.any fun b => decide (1024 < b.size)
/-- what a list of texts is refused for -/
def loadE (l : List ByteArray) : Int := if l.length < 1 ∨ 4096 < l.length then 2 else if tooLong l = true then 1 else 0
def inB (s : Dk) (i : Int) : Bool := decide (0 ≤ i) && decide (i < s.now.length)
def writeE (s : Dk) (i : Int) (b : ByteArray) : Int := if inB s i = false then 2 else if 1024 < b.size then 1 else if s.off = true ∨ (s.armed = true ∧ s.left = 0) then 20 else 0
def Dk.put (s : Dk) (i : Int) (b : ByteArray) : Dk := { s with left := if s.armed = true then wrap64 (s.left - 1) else s.left, now := s.now.set i.toNat b, log := s.log ++ [⟨i, b⟩] }
/-- the disk behind a write -/
def Dk.write (s : Dk) (i : Int) (b : ByteArray) : Dk := if writeE s i b = 20 then { s with off := true } else if writeE s i b = 0 then s.put i b else s
def readE (s : Dk) (i : Int) : Int := if inB s i = false then 2 else if s.off = true then 20 else 0
def readS (s : Dk) (i : Int) : ByteArray := if readE s i = 0 then (s.now[i.toNat]?).getD bmt else bmt
def armE (n : Int) : Int := if n < -1 then 2 else 0
def Dk.arm (s : Dk) (n : Int) : Dk := if n < -1 then s else { s with armed := decide (0 ≤ n), left := if 0 ≤ n then n else 0 }
def Dk.start (s : Dk) : Dk := { s with armed := false, left := 0, off := false }
def playW (l : List ByteArray) (ws : List Wr) : List ByteArray := ws.foldl (fun l w => l.set w.at_.toNat w.blk) l
def cutE (s : Dk) (n : Int) : Int := if n < 0 ∨ s.log.length < n then 2 else 0
def Dk.cut (s : Dk) (n : Nat) : Dk := ⟨s.first, playW s.first (s.log.take n), s.log.take n, false, 0, false⟩
/-- what stands of a disk at all times: the writes lie within the blocks -/
structure Dk.ok (s : Dk) : Prop where
  len : s.first.length = s.now.length
  wr : ∀ w ∈ s.log, 0 ≤ w.at_ ∧ w.at_ < s.first.length
  play : playW s.first s.log = s.now
theorem playW_length (ws : List Wr) : ∀ l, (playW l ws).length = l.length := by
  induction ws with
  | nil => intro l; rfl
  | cons w ws ih => intro l; show (playW (l.set _ _) ws).length = _; rw [ih]; simp
theorem playW_append (ws vs : List Wr) (l : List ByteArray) : playW l (ws ++ vs) = playW (playW l ws) vs := by simp [playW]
end Go.Gx.Dsk
