/- Layer 2: what stands of a disk whatever is done with it. No program in sight. -/
import Derived.Test.YtfcmjddpoacenaaActs
set_option linter.unusedVariables false
set_option linter.unusedSimpArgs false
namespace Go.Gx.Dsk
open Go.Gx Go.RowKit
theorem wrs_get {l : List Wr} {k j : Nat} {a : Wr} {v : Value} (h : l[k]? = some a) (hj : a.cells[j]? = some v) : (wrs l)[k * 2 + j]? = some v := by
  induction l generalizing k with
  | nil => simp at h
  | cons x l ih =>
    have e : wrs (x :: l) = x.cells ++ wrs l := by simp [wrs]
    rw [e]
    cases k with
    | zero =>
      simp at h; subst h
      have : j < x.cells.length := (List.getElem?_eq_some_iff.1 hj).1
      rw [List.getElem?_append_left (by omega)]
      simpa using hj
    | succ k =>
      have h' : l[k]? = some a := by simpa using h
      have hl : x.cells.length = 2 := rfl
      rw [List.getElem?_append_right (by omega)]
      have : (k + 1) * 2 + j - x.cells.length = k * 2 + j := by omega
      rw [this]; exact ih h'
theorem Dk.ok.made (l : List ByteArray) : (Dk.made l).ok := ⟨rfl, by intro w hw; simp [Dk.made] at hw, rfl⟩
theorem Dk.ok.arm {s : Dk} (h : s.ok) (n : Int) : (s.arm n).ok := by
  unfold Dk.arm; split
  · exact h
  · exact ⟨h.len, h.wr, h.play⟩
theorem Dk.ok.start {s : Dk} (h : s.ok) : s.start.ok := ⟨h.len, h.wr, h.play⟩
theorem writeE_cases (s : Dk) (i : Int) (t : ByteArray) : (writeE s i t = 0 ∧ inB s i = true) ∨ writeE s i t = 1 ∨ writeE s i t = 2 ∨ writeE s i t = 20 := by
  unfold writeE
  cases hi : inB s i with
  | false => simp
  | true =>
    rw [if_neg (by simp)]
    by_cases h1 : 1024 < t.size
    · rw [if_pos h1]; simp
    · rw [if_neg h1]
      by_cases h2 : s.off = true ∨ (s.armed = true ∧ s.left = 0)
      · rw [if_pos h2]; simp
      · rw [if_neg h2]; simp
theorem Dk.ok.put {s : Dk} (h : s.ok) {i : Int} (t : ByteArray) (hi : inB s i = true) : (s.put i t).ok := by
  simp only [inB, Bool.and_eq_true, decide_eq_true_eq] at hi
  refine ⟨?_, ?_, ?_⟩
  · simp [Dk.put, h.len]
  · intro w hw
    simp only [Dk.put, List.mem_append, List.mem_singleton] at hw
    rcases hw with hw | rfl
    · exact h.wr w hw
    · show 0 ≤ i ∧ i < s.first.length
      rw [h.len]; omega
  · show playW s.first (s.log ++ [⟨i, t⟩]) = s.now.set i.toNat t
    rw [playW_append, h.play]; rfl
theorem Dk.ok.write {s : Dk} (h : s.ok) (i : Int) (t : ByteArray) : (s.write i t).ok := by
  unfold Dk.write
  rcases writeE_cases s i t with ⟨e, hi⟩ | e | e | e <;> rw [e] <;> simp
  · exact h.put t hi
  · exact h
  · exact h
  · exact ⟨h.len, h.wr, h.play⟩
theorem write_first (s : Dk) (i : Int) (t : ByteArray) : (s.write i t).first = s.first := by
  unfold Dk.write; split
  · rfl
  · split <;> rfl
theorem write_log (s : Dk) (i : Int) (t : ByteArray) : (s.write i t).log.length ≤ s.log.length + 1 := by
  unfold Dk.write; split
  · simp
  · split
    · simp [Dk.put]
    · simp
theorem arm_first (s : Dk) (n : Int) : (s.arm n).first = s.first := by unfold Dk.arm; split <;> rfl
theorem arm_log (s : Dk) (n : Int) : (s.arm n).log = s.log := by unfold Dk.arm; split <;> rfl
theorem cut_whole {s : Dk} (h : s.ok) : (s.cut s.log.length).now = s.now := by
  show playW s.first (s.log.take s.log.length) = s.now
  rw [List.take_length]; exact h.play
/-- a state that stands behind so many acts -/
structure Dk.at_ (im : List ByteArray) (k : Nat) (s : Dk) : Prop where
  ok : s.ok
  first : s.first = im
  log : s.log.length ≤ k
theorem Dk.at_.start0 (im : List ByteArray) : Dk.at_ im 0 (Dk.made im) := ⟨.made im, rfl, Nat.le_refl _⟩
theorem Dk.at_.mono {im : List ByteArray} {k : Nat} {s : Dk} (h : Dk.at_ im k s) : Dk.at_ im (k + 1) s := ⟨h.ok, h.first, by have := h.log; omega⟩
theorem Dk.at_.write {im : List ByteArray} {k : Nat} {s : Dk} (h : Dk.at_ im k s) (i : Int) (t : ByteArray) : Dk.at_ im (k + 1) (s.write i t) := ⟨h.ok.write i t, by rw [write_first]; exact h.first, by have := write_log s i t; have := h.log; omega⟩
theorem Dk.at_.arm {im : List ByteArray} {k : Nat} {s : Dk} (h : Dk.at_ im k s) (n : Int) : Dk.at_ im (k + 1) (s.arm n) := ⟨h.ok.arm n, by rw [arm_first]; exact h.first, by rw [arm_log]; have := h.log; omega⟩
theorem Dk.at_.start {im : List ByteArray} {k : Nat} {s : Dk} (h : Dk.at_ im k s) : Dk.at_ im (k + 1) s.start := ⟨h.ok.start, h.first, by have := h.log; show s.log.length ≤ k + 1; omega⟩
end Go.Gx.Dsk
