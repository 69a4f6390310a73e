import Derived.Test.YtjflokgplehfgaaModel
set_option linter.unusedVariables false
set_option linter.unusedSimpArgs false
namespace Go.Gx.Ans
theorem told_phase {r r' c p p' : Int} {t : ByteArray} {q q' : Lt} (l : Lt) : told ⟨r, c, t, p, q⟩ l = told ⟨r', c, t, p', q'⟩ l := rfl
def takesK (s : Sta) (l : Lt) (k : Int) : Sta × List Ot :=
  if s.phase = 1 then (if k = 1 then (inPh s 2, [⟨0, promise s 1⟩]) else (s, []))
  else if s.phase = 5 then (if k = 6 then (proved s l, []) else if k = 5 then (inPh s 7, []) else if k = 2 then (proved s l, [⟨0, signature s 1⟩]) else (s, []))
  else if s.phase = 2 then (if k = 2 then (proved s l, [⟨0, signature s 1⟩]) else if k = 1 then (s, [⟨0, promise s 1⟩]) else (s, []))
  else if s.phase = 6 then (if k = 2 then (s, [⟨0, signature s 1⟩]) else (s, []))
  else (s, [])
theorem takesS_K (s : Sta) (l : Lt) : takesS s l = takesK s l (told s l) := rfl
theorem told_takes (s : Sta) (l : Lt) : told (takesS s l).1 l = told s l := by
  unfold takesS; repeat' split
  all_goals rfl
theorem takes_twice (s : Sta) (l : Lt) : (takesS (takesS s l).1 l).1 = (takesS s l).1 := by
  rw [takesS_K (takesS s l).1, told_takes, takesS_K]
  generalize told s l = k
  obtain ⟨r, c, t, p, q⟩ := s
  simp only [takesK, inPh, proved]
  by_cases h1 : p = 1
  · by_cases k1 : k = 1 <;> simp [h1, k1]
  · by_cases h5 : p = 5
    · by_cases k6 : k = 6 <;> by_cases k5 : k = 5 <;> by_cases k2 : k = 2 <;> simp [h5, k6, k5, k2]
    · by_cases h2 : p = 2
      · by_cases k2 : k = 2 <;> by_cases k1 : k = 1 <;> simp [h2, k2, k1]
      · by_cases h6 : p = 6
        · by_cases k2 : k = 2 <;> simp [h6, k2]
        · simp [h1, h5, h2, h6]
theorem takes_c (s : Sta) (l : Lt) : (takesS s l).1.c = s.c := by
  unfold takesS; repeat' split
  all_goals rfl
theorem ticks_c (s : Sta) : (ticksS s).1.c = s.c := by
  unfold ticksS; repeat' split
  all_goals rfl
theorem ticks_twice (s : Sta) : (ticksS (ticksS s).1).1 = (ticksS s).1 := by
  obtain ⟨r, c, t, p, q⟩ := s
  simp only [ticksS, inPh]
  repeat' split
  all_goals simp_all
theorem step_twice (s : Sta) (v : Ev) : (stepS (stepS s v).1 v).1 = (stepS s v).1 := by
  unfold stepS
  cases hc : chkS s with
  | false => simp [hc]
  | true =>
    simp only [Bool.true_eq_false, if_false]
    by_cases h2 : v.kind = 2
    · simp only [h2, if_true]
      split
      · rfl
      · exact takes_twice _ _
    · simp only [h2, if_false]
      by_cases hcc : v.c = s.c
      · simp only [hcc, ne_eq, not_true, if_false]
        by_cases h3 : v.kind = 3
        · simp only [h3, if_true]
          split
          · rfl
          · rw [if_neg (by simp [ticks_c])]; exact ticks_twice _
        · simp only [h3, if_false]
          by_cases h1 : v.kind = 1 ∧ s.phase = 0 ∧ v.text.size ≤ 64
          · simp [h1]
          · simp [h1]
      · simp [hcc]
theorem chk_five {s : Sta} (h : chkS s = true) (hp : s.phase = 2) : chkS (inPh s 5) = true := by
  rw [chkS_iff] at h ⊢
  obtain ⟨h1, h2, h3⟩ := h
  refine ⟨h1, h2, .inr (.inl ⟨.inr (.inr (.inl rfl)), ?_⟩)⟩
  rcases h3 with ⟨h, _⟩ | ⟨_, h⟩ | ⟨h, _⟩
  · rw [hp] at h; cases h
  · exact h
  · rw [hp] at h; cases h
theorem step_tick (s : Sta) (v : Ev) (hp : s.phase = 2) (hv : v.kind = 3) (h : (stepS s v).1.phase = 5) : (stepS (stepS s v).1 v).2.length = 1 := by
  cases hc : chkS s with
  | false => simp [stepS, hc, hp] at h
  | true =>
    by_cases hcc : v.c = s.c
    · have e : stepS s v = (inPh s 5, [⟨2, ⟨4, 1, s.c, s.text, false⟩⟩]) := by simp [stepS, hc, hv, hcc, ticksS, hp]
      rw [e]
      have hf := chk_five hc hp
      simp only [inPh] at hf
      simp [stepS, hf, hv, hcc, ticksS, inPh]
    · simp [stepS, hc, hv, hcc, hp] at h
end Go.Gx.Ans
namespace Go.Gx.Ans
theorem tw1 {s s1 s2 : Sta} {v : Ev} {o1 o2 : List Ot} (h : s1.beq s2 = false) (h1 : stepS s v = (s1, o1)) (h2 : stepS s1 v = (s2, o2)) : False := by
  have e := step_twice s v
  rw [h1] at e; simp only [] at e; rw [h2] at e; simp only [] at e
  have := Sta.beq_iff.2 e.symm
  rw [h] at this; cases this
theorem tw3 {s s1 s2 : Sta} {v : Ev} {o1 o2 : List Ot} (h : s2.beq s1 = false) (h1 : stepS s v = (s1, o1)) (h2 : stepS s1 v = (s2, o2)) : False := by
  have e := step_twice s v
  rw [h1] at e; simp only [] at e; rw [h2] at e; simp only [] at e
  have := Sta.beq_iff.2 e
  rw [h] at this; cases this
theorem tw4 {s s1 s2 : Sta} {v : Ev} {o1 o2 : List Ot} (h : ¬(o2.length : Int) = 1) (h2 : stepS s1 v = (s2, o2)) (h1 : stepS s v = (s1, o1)) (hp : s.phase = 2) (hv : v.kind = 3) (h5 : s1.phase = 5) : False := by
  have e := step_tick s v hp hv (by rw [h1]; exact h5)
  rw [h1] at e; simp only [] at e; rw [h2] at e; simp only [] at e
  omega
end Go.Gx.Ans
