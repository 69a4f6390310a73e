/- Layer 2: the acts of the laws, and what holds of two disks of which one is armed. No program in sight. -/
import Derived.Test.YtfcmjddpoacenaaModel
import Derived.Test.YtfcmjddpoacenaaGxRd
set_option linter.unusedVariables false
set_option linter.unusedSimpArgs false
namespace Go.Gx.Dsk
open Go.Gx Go.RowKit
/-- an act of the law's -/
structure Ac where
  kind : Int
  at_ : Int
  s : ByteArray
def Ac.cells (x : Ac) : List Value := [.int .i64 x.kind, .int .i64 x.at_, .string x.s]
def acs (l : List Ac) : List Value := l.flatMap Ac.cells
theorem acs_length (l : List Ac) : (acs l).length = l.length * 3 := by
  induction l with
  | nil => rfl
  | cons x l ih => simp only [acs, List.flatMap_cons, List.length_append, List.length_cons] at *; rw [ih]; simp [Ac.cells]; omega
theorem acs_get {l : List Ac} {k j : Nat} {a : Ac} {v : Value} (h : l[k]? = some a) (hj : a.cells[j]? = some v) : (acs l)[k * 3 + j]? = some v := by
  induction l generalizing k with
  | nil => simp at h
  | cons x l ih =>
    have e : acs (x :: l) = x.cells ++ acs l := by simp [acs]
    rw [e]
    cases k with
    | zero =>
      simp at h; subst h
      have : j < x.cells.length := (List.getElem?_eq_some_iff.1 hj).1
      rw [List.getElem?_append_left (by omega)]
      simpa using hj
    | succ k =>
      have h' : l[k]? = some a := by simpa using h
      have hl : x.cells.length = 3 := rfl
      rw [List.getElem?_append_right (by omega)]
      have : (k + 1) * 3 + j - x.cells.length = k * 3 + j := by omega
      rw [this]; exact ih h'
theorem acs_flat (l : List Ac) : (l.map Ac.cells).flatten = acs l := by simp [acs, List.flatMap]
theorem strs_flat (l : List ByteArray) : (l.map fun s => [Value.string s]).flatten = strs l := by
  induction l with
  | nil => rfl
  | cons x l ih => simp only [List.map_cons, List.flatten_cons, ih]; rfl
def LongP (w0 : World) (D : Nat → Prop) (R : List Ent) (n m : Nat) (e : Ending) (w' : World) : Prop := ∃ hb : Bool, e = .returned (.bool hb) ∧ (hb = false → n ≤ 60 ∧ m ≤ 40) ∧ Hp w0 D R w'
theorem wrap_dec {x : Int} (h0 : 0 < x) (h1 : x ≤ 9223372036854775807) : wrap64 (x - 1) = x - 1 := by
  unfold wrap64; omega
/-- d is armed with n, c is not; else they are alike -/
structure ArmI (im : List ByteArray) (n : Int) (d c : Dk) (k : Nat) : Prop where
  ca : c.armed = false
  co : c.off = false
  da : d.armed = true
  fi : d.first = c.first
  no : d.now = c.now
  lo : d.log = c.log
  len : c.now.length = im.length
  left : d.left = n - c.log.length
  le : (c.log.length : Int) ≤ n
  off : d.off = true → (c.log.length : Int) = n
  kk : c.log.length ≤ k
section
variable {im : List ByteArray} {n : Int} {d c : Dk} {k : Nat} {i : Int} {t : ByteArray}
theorem ArmI.start (hn : 0 ≤ n) : ArmI im n ((Dk.made im).arm n) (Dk.made im) 0 := by
  have e : (Dk.made im).arm n = ⟨im, im, [], true, n, false⟩ := by unfold Dk.arm; rw [if_neg (by omega)]; simp [Dk.made, hn]
  rw [e]
  exact ⟨rfl, rfl, rfl, rfl, rfl, rfl, rfl, by simp [Dk.made], by simpa [Dk.made] using hn, by simp, by simp [Dk.made]⟩
theorem ArmI.mono (h : ArmI im n d c k) : ArmI im n d c (k + 1) := ⟨h.ca, h.co, h.da, h.fi, h.no, h.lo, h.len, h.left, h.le, h.off, Nat.le_succ_of_le h.kk⟩
theorem ArmI.out (h : ArmI im n d c k) (hi : i < 0 ∨ im.length ≤ i) : writeE d i t = 2 ∧ d.write i t = d := by
  have e : inB d i = false := by
    unfold inB; rw [h.no, h.len]
    rcases hi with hi | hi
    · simp; omega
    · simp; omega
  have : writeE d i t = 2 := by unfold writeE; rw [if_pos e]
  exact ⟨this, by unfold Dk.write; rw [this]; simp⟩
theorem ArmI.inB (h : ArmI im n d c k) (h0 : 0 ≤ i) (h1 : i < im.length) : Dsk.inB d i = true ∧ Dsk.inB c i = true := by
  unfold Dsk.inB; rw [h.no, h.len]; simp [h0, h1]
theorem ArmI.long (h : ArmI im n d c k) (h0 : 0 ≤ i) (h1 : i < im.length) (hs : 1024 < t.size) : writeE d i t = 1 ∧ d.write i t = d := by
  have : writeE d i t = 1 := by unfold writeE; rw [if_neg (by simp [(h.inB h0 h1).1]), if_pos hs]
  exact ⟨this, by unfold Dk.write; rw [this]; simp⟩
theorem ArmI.full (h : ArmI im n d c k) (h0 : 0 ≤ i) (h1 : i < im.length) (hs : t.size ≤ 1024) (hf : (c.log.length : Int) = n) : writeE d i t = 20 ∧ ArmI im n (d.write i t) c (k + 1) := by
  have : writeE d i t = 20 := by unfold writeE; rw [if_neg (by simp [(h.inB h0 h1).1]), if_neg (by omega), if_pos (show d.off = true ∨ (d.armed = true ∧ d.left = 0) from .inr ⟨h.da, by rw [h.left]; omega⟩)]
  refine ⟨this, ?_⟩
  have e : d.write i t = { d with off := true } := by unfold Dk.write; rw [if_pos this]
  rw [e]
  exact ⟨h.ca, h.co, h.da, h.fi, h.no, h.lo, h.len, h.left, h.le, fun _ => hf, Nat.le_succ_of_le h.kk⟩
theorem ArmI.go (h : ArmI im n d c k) (h0 : 0 ≤ i) (h1 : i < im.length) (hs : t.size ≤ 1024) (hf : (c.log.length : Int) < n) (hn : n ≤ 9223372036854775807) : writeE d i t = 0 ∧ writeE c i t = 0 ∧ ArmI im n (d.write i t) (c.write i t) (k + 1) := by
  have hd : ¬ (d.off = true ∨ (d.armed = true ∧ d.left = 0)) := by
    rintro (h2 | ⟨_, h2⟩)
    · have := h.off h2; omega
    · rw [h.left] at h2; omega
  have e1 : writeE d i t = 0 := by unfold writeE; rw [if_neg (by simp [(h.inB h0 h1).1]), if_neg (by omega), if_neg hd]
  have e2 : writeE c i t = 0 := by unfold writeE; rw [if_neg (by simp [(h.inB h0 h1).2]), if_neg (by omega), if_neg (by simp [h.ca, h.co])]
  refine ⟨e1, e2, ?_⟩
  have f1 : d.write i t = d.put i t := by unfold Dk.write; rw [e1]; simp
  have f2 : c.write i t = c.put i t := by unfold Dk.write; rw [e2]; simp
  rw [f1, f2]
  have hl : d.left - 1 = n - (c.log.length + 1) := by rw [h.left]; omega
  refine ⟨h.ca, h.co, h.da, h.fi, ?_, ?_, ?_, ?_, ?_, ?_, ?_⟩
  · simp [Dk.put, h.no]
  · simp [Dk.put, h.lo]
  · simp [Dk.put, h.len]
  · show (if d.armed = true then wrap64 (d.left - 1) else d.left) = n - ((c.log ++ [(⟨i, t⟩ : Wr)]).length : Nat)
    rw [if_pos h.da, wrap_dec (by rw [h.left]; omega) (by rw [h.left]; omega), hl]
    simp
  · show (((c.log ++ [(⟨i, t⟩ : Wr)]).length : Nat) : Int) ≤ n
    simp; omega
  · intro h2
    have h3 : d.off = true := h2
    have := h.off h3; omega
  · show (c.log ++ [(⟨i, t⟩ : Wr)]).length ≤ k + 1
    have := h.kk
    simp; omega
end
end Go.Gx.Dsk
