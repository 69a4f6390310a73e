/- Layer 17: what a step of the responder keeps. No program in sight. -/
import Derived.Test.YtjflokgplehfgaaE
set_option linter.unusedVariables false
set_option linter.unusedSimpArgs false
namespace Go.Gx.Ans
structure Safe (s s' : Sta) (o : List Ot) : Prop where
  chk : chkS s' = true
  c : s'.c = s.c
  fin : (s.phase = 6 ∨ s.phase = 7) → s' = s
  len : o.length ≤ 1
  sig : ∀ x ∈ o, x.letter.kind = 2 → s'.phase = 6 ∧ x = ⟨0, signature s' 1⟩
  low : (s'.phase = 0 ∨ s'.phase = 1) → o = [] ∧ (s.phase = 0 ∨ s.phase = 1)
theorem Safe.same {s : Sta} {o : List Ot} (hc : chkS s = true) (hl : o.length ≤ 1) (hs : ∀ x ∈ o, x.letter.kind = 2 → s.phase = 6 ∧ x = ⟨0, signature s 1⟩) (hw : (s.phase = 0 ∨ s.phase = 1) → o = []) : Safe s s o :=
  ⟨hc, rfl, fun _ => rfl, hl, hs, fun h => ⟨hw h, h⟩⟩
theorem Safe.none {s : Sta} (hc : chkS s = true) : Safe s s [] := Safe.same hc (by simp) (by simp) (fun _ => rfl)
theorem safe_step {s s' : Sta} {e : Ev} {o : List Ot} (h : stepS s e = (s', o)) (hc : chkS s = true) : Safe s s' o := by
  have hP := chkS_iff.1 hc
  have hs := hP.2.1
  have hnc : ¬ chkS s = false := by simp [hc]
  unfold stepS at h
  rw [if_neg hnc] at h
  by_cases k2 : e.kind = 2
  · rw [if_pos k2] at h
    have t2 : told s e.letter = 2 → e.letter = signature s 0 := (told_iff hs (.inr (.inl rfl))).1
    have t6 : told s e.letter = 6 → e.letter = instead s := (told_iff hs (.inr (.inr (.inr rfl)))).1
    unfold takesS at h
    have z : ∀ p, s.phase = p → p = 1 ∨ p = 2 ∨ p = 5 ∨ p = 7 → s.proof = .zero := by
      intro p hp hq
      rcases hP.2.2 with ⟨h0, _⟩ | ⟨_, h1⟩ | ⟨h6, _⟩
      · omega
      · exact h1
      · omega
    by_cases p1 : s.phase = 1
    · rw [if_pos p1] at h
      split at h
      · cases h
        refine ⟨chkS_true ⟨hP.1, hs, .inr (.inl ⟨.inr (.inl rfl), z 1 p1 (by simp)⟩)⟩, rfl, fun h => by omega, by simp, ?_, fun h => by simp [inPh] at h⟩
        intro x hx hk; simp at hx; subst hx; simp [promise] at hk
      · cases h; exact .none hc
    · rw [if_neg p1] at h
      by_cases p5 : s.phase = 5
      · rw [if_pos p5] at h
        split at h
        · rename_i h6
          cases h
          refine ⟨chkS_true ⟨hP.1, hs, .inr (.inr ⟨rfl, .inr (t6 h6)⟩)⟩, rfl, fun h => by omega, by simp, by simp, fun h => by simp [proved] at h⟩
        · split at h
          · cases h
            exact ⟨chkS_true ⟨hP.1, hs, .inr (.inl ⟨.inr (.inr (.inr rfl)), z 5 p5 (by simp)⟩)⟩, rfl, fun h => by omega, by simp, by simp, fun h => by simp [inPh] at h⟩
          · split at h
            · rename_i h2
              cases h
              refine ⟨chkS_true ⟨hP.1, hs, .inr (.inr ⟨rfl, .inl (t2 h2)⟩)⟩, rfl, fun h => by omega, by simp, ?_, fun h => by simp [proved] at h⟩
              intro x hx hk; simp at hx; subst hx; exact ⟨rfl, rfl⟩
            · cases h; exact .none hc
      · rw [if_neg p5] at h
        by_cases p2 : s.phase = 2
        · rw [if_pos p2] at h
          split at h
          · rename_i h2
            cases h
            refine ⟨chkS_true ⟨hP.1, hs, .inr (.inr ⟨rfl, .inl (t2 h2)⟩)⟩, rfl, fun h => by omega, by simp, ?_, fun h => by simp [proved] at h⟩
            intro x hx hk; simp at hx; subst hx; exact ⟨rfl, rfl⟩
          · split at h
            · cases h
              refine .same hc (by simp) ?_ (fun h => by omega)
              intro x hx hk; simp at hx; subst hx; simp [promise] at hk
            · cases h; exact .none hc
        · rw [if_neg p2] at h
          by_cases p6 : s.phase = 6
          · rw [if_pos p6] at h
            split at h
            · cases h
              refine .same hc (by simp) ?_ (fun h => by omega)
              intro x hx hk; simp at hx; subst hx; exact ⟨p6, rfl⟩
            · cases h; exact .none hc
          · rw [if_neg p6] at h; cases h; exact .none hc
  · rw [if_neg k2] at h
    by_cases hcc : e.c = s.c
    · rw [if_neg (by simp [hcc])] at h
      by_cases k3 : e.kind = 3
      · rw [if_pos k3] at h
        unfold ticksS at h
        have z : ∀ p, s.phase = p → p = 1 ∨ p = 2 ∨ p = 5 ∨ p = 7 → s.proof = .zero := by
          intro p hp hq
          rcases hP.2.2 with ⟨h0, _⟩ | ⟨_, h1⟩ | ⟨h6, _⟩
          · omega
          · exact h1
          · omega
        by_cases p1 : s.phase = 1
        · rw [if_pos p1] at h; cases h
          exact ⟨chkS_true ⟨hP.1, hs, .inr (.inl ⟨.inr (.inr (.inr rfl)), z 1 p1 (by simp)⟩)⟩, rfl, fun h => by omega, by simp, by simp, fun h => by simp [inPh] at h⟩
        · rw [if_neg p1] at h
          by_cases p25 : s.phase = 2 ∨ s.phase = 5
          · rw [if_pos p25] at h; cases h
            refine ⟨chkS_true ⟨hP.1, hs, .inr (.inl ⟨.inr (.inr (.inl rfl)), z s.phase rfl (by omega)⟩)⟩, rfl, fun h => by omega, by simp, ?_, fun h => by simp [inPh] at h⟩
            intro x hx hk; simp at hx; subst hx; simp at hk
          · rw [if_neg p25] at h; cases h; exact .none hc
      · rw [if_neg k3] at h
        by_cases k1 : e.kind = 1 ∧ s.phase = 0 ∧ e.text.size ≤ 64
        · rw [if_pos k1] at h; cases h
          have hz : s.proof = .zero := by
            rcases hP.2.2 with ⟨_, _, h1⟩ | ⟨_, h1⟩ | ⟨h6, _⟩
            · exact h1
            · exact h1
            · omega
          exact ⟨chkS_true ⟨hP.1, k1.2.2, .inr (.inl ⟨.inl rfl, hz⟩)⟩, rfl, fun h => by omega, by simp, by simp, fun _ => ⟨rfl, .inl k1.2.1⟩⟩
        · rw [if_neg k1] at h; cases h; exact .none hc
    · rw [if_pos hcc] at h; cases h; exact .none hc
/-- what stands behind so many events -/
structure SafeI (c : Int) (k : Nat) (s : Sta) (sent : Int) (sg : Bool) : Prop where
  chk : chkS s = true
  c : s.c = c
  sent0 : 0 ≤ sent
  sentk : sent ≤ k
  low : (s.phase = 0 ∨ s.phase = 1) → sent = 0
  sg : sg = true → s.phase = 6
theorem SafeI.zero (c : Int) : SafeI c 0 ⟨1, c, ⟨#[]⟩, 0, .zero⟩ 0 false :=
  ⟨chkS_true ⟨rfl, (by show (⟨#[]⟩ : ByteArray).size ≤ 64; decide), .inl ⟨rfl, rfl, rfl⟩⟩, rfl, by omega, by simp, fun _ => rfl, fun h => by cases h⟩
theorem SafeI.next0 {c : Int} {k : Nat} {s s' : Sta} {sent : Int} {sg : Bool} (h : SafeI c k s sent sg) (h' : Safe s s' []) : SafeI c (k + 1) s' sent sg :=
  ⟨h'.chk, h'.c.trans h.c, h.sent0, by have := h.sentk; omega, fun hp => h.low (h'.low hp).2, fun hs => by have := h'.fin (.inl (h.sg hs)); rw [this]; exact h.sg hs⟩
theorem SafeI.next1 {c : Int} {k : Nat} {s s' : Sta} {sent : Int} {sg : Bool} {x : Ot} (h : SafeI c k s sent sg) (h' : Safe s s' [x]) : SafeI c (k + 1) s' (sent + 1) (sg || x.letter.kind == 2) :=
  ⟨h'.chk, h'.c.trans h.c, by have := h.sent0; omega, by have := h.sentk; omega, fun hp => absurd (h'.low hp).1 (by simp), fun hs => by
    rw [Bool.or_eq_true] at hs
    rcases hs with hs | hs
    · have := h'.fin (.inl (h.sg hs)); rw [this]; exact h.sg hs
    · exact (h'.sig x (by simp) (by simpa using hs)).1⟩
theorem proves_of {s : Sta} (hc : chkS s = true) (h6 : s.phase = 6) : provesS s 0 = true := by
  have hP := chkS_iff.1 hc
  rcases hP.2.2 with ⟨h0, _⟩ | ⟨h1, _⟩ | ⟨_, h⟩
  · omega
  · omega
  · unfold provesS
    rcases h with h | h
    · rw [h]; simp [Lt.beq_iff]
    · rw [h]; simp [Lt.beq_iff]
theorem tick_of {s : Sta} (hc : chkS s = true) (h1 : s.phase = 1) : stepS s ⟨3, s.c, ⟨#[]⟩, .zero⟩ = (inPh s 7, []) ∧ chkS (inPh s 7) = true := by
  have hP := chkS_iff.1 hc
  constructor
  · unfold stepS; rw [if_neg (by simp [hc]), if_neg (by simp), if_neg (by simp), if_pos rfl]; unfold ticksS; rw [if_pos h1]
  · have hz : s.proof = .zero := by
      rcases hP.2.2 with ⟨h0, _⟩ | ⟨_, h⟩ | ⟨h6, _⟩
      · omega
      · exact h
      · omega
    exact chkS_true ⟨hP.1, hP.2.1, .inr (.inl ⟨.inr (.inr (.inr rfl)), hz⟩)⟩
end Go.Gx.Ans
