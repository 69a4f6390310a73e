import Derived.Test.YtjflokgplehfgaaQ3
set_option linter.unusedVariables false
set_option linter.unusedSimpArgs false
namespace Go.Gx.Ans
open Go.RowKit
theorem lCheck_party {s : Sta} {k w : Int} (hs : s.text.size ≤ 64) (hk : k = 1 ∨ k = 2 ∨ k = 4) (hw : w = 0 ∨ w = 1) : lCheck ⟨k, w, s.c, s.text, false⟩ = 0 := by
  refine lCheck_ok _ ?_ ?_ ?_ ?_
  · show (1 : Int) ≤ k; omega
  · show k ≤ 7; omega
  · rcases hk with rfl | rfl | rfl <;> rcases hw with rfl | rfl <;> simp [lBad, kFrom, kText, kFake]
  · show (s.text.size : Int) ≤ 64; omega
theorem lCheck_instead {s : Sta} (hs : s.text.size ≤ 64) : lCheck (instead s) = 0 := by
  refine lCheck_ok _ (show (1 : Int) ≤ 6 by decide) (show (6 : Int) ≤ 7 by decide) ?_ ?_
  · simp [lBad, instead, kFrom, kText, kFake]
  · show (s.text.size : Int) ≤ 64; omega
theorem lCheck_token {s : Sta} : lCheck (token s) = 0 := by
  refine lCheck_ok _ (show (1 : Int) ≤ 5 by decide) (show (5 : Int) ≤ 7 by decide) ?_ (show (((⟨#[]⟩ : ByteArray).size : Nat) : Int) ≤ 64 by decide)
  simp [lBad, token, kFrom, kText, kFake]
theorem want1 (s : Sta) : want s 1 = promise s 0 := rfl
theorem want2 (s : Sta) : want s 2 = signature s 0 := rfl
theorem want6 (s : Sta) : want s 6 = instead s := rfl
theorem want5 (s : Sta) : want s 5 = token s := rfl
theorem told_iff {s : Sta} {l : Lt} {k : Int} (hs : s.text.size ≤ 64) (hk : k = 1 ∨ k = 2 ∨ k = 5 ∨ k = 6) : told s l = k ↔ l = want s k := by
  constructor
  · intro h
    by_cases hn : toldNo s l
    · rw [told_no hn] at h; omega
    · by_cases hy : toldYes s l = true
      · rw [told_yes hn hy] at h
        simp only [toldYes, Bool.or_eq_true, Lt.beq_iff] at hy
        rcases hy with ((e | e) | e) | e
        · have : k = 1 := by rw [← h, e]; rfl
          rw [this, want1]; exact e
        · have : k = 2 := by rw [← h, e]; rfl
          rw [this, want2]; exact e
        · have : k = 6 := by rw [← h, e]; rfl
          rw [this, want6]; exact e
        · have : k = 5 := by rw [← h, e]; rfl
          rw [this, want5]; exact e
      · rw [told_none hn (by simpa using hy)] at h; omega
  · rintro rfl
    have hc : lCheck (want s k) = 0 := by
      rcases hk with rfl | rfl | rfl | rfl
      · exact lCheck_party hs (.inl rfl) (.inl rfl)
      · exact lCheck_party hs (.inr (.inl rfl)) (.inl rfl)
      · exact lCheck_token
      · exact lCheck_instead hs
    have hn : ¬ toldNo s (want s k) := by
      intro h
      rcases h with h | h | h
      · exact h hc
      · cases h
      · exact h rfl
    rw [told_yes hn]
    · rfl
    · simp only [toldYes, Bool.or_eq_true, Lt.beq_iff]
      rcases hk with rfl | rfl | rfl | rfl
      · exact .inl (.inl (.inl rfl))
      · exact .inl (.inl (.inr rfl))
      · exact .inr rfl
      · exact .inl (.inr rfl)
theorem toR_party {s : Sta} {k : Int} (hs : s.text.size ≤ 64) (hk : k = 1 ∨ k = 2) : toR ⟨k, 1, s.c, s.text, false⟩ = 0 := by
  unfold toR
  rw [if_neg (by simp [lCheck_party hs (hk.elim .inl (fun h => .inr (.inl h))) (.inr rfl)]), if_pos (by simpa using hk)]
  show wrap64 (1 - 1) = 0
  decide +kernel
theorem toR_resolve {s : Sta} (hs : s.text.size ≤ 64) : toR ⟨4, 1, s.c, s.text, false⟩ = 2 := by
  unfold toR
  rw [if_neg (by simp [lCheck_party hs (.inr (.inr rfl)) (.inr rfl)]), if_neg (by simp), if_pos (by simp)]
open Classical in
theorem stepR_eq (s : Sta) (v : Ev) : stepR s v = stepS s v := by
  cases hc : chkS s with
  | false => simp [stepR, stepS, hc]
  | true =>
    have hP := chkS_iff.1 hc
    have hs := hP.2.1
    have t1 : told s v.letter = 1 ↔ v.letter = promise s 0 := told_iff hs (.inl rfl)
    have t2 : told s v.letter = 2 ↔ v.letter = signature s 0 := told_iff hs (.inr (.inl rfl))
    have t5 : told s v.letter = 5 ↔ v.letter = token s := told_iff hs (.inr (.inr (.inl rfl)))
    have t6 : told s v.letter = 6 ↔ v.letter = instead s := told_iff hs (.inr (.inr (.inr rfl)))
    have r1 := toR_party (s := s) (k := 1) hs (.inl rfl)
    have r2 := toR_party (s := s) (k := 2) hs (.inr rfl)
    have r4 := toR_resolve (s := s) hs
    have hph : s.phase = 0 ∨ s.phase = 1 ∨ s.phase = 2 ∨ s.phase = 5 ∨ s.phase = 6 ∨ s.phase = 7 := by
      rcases hP.2.2 with ⟨h, _⟩ | ⟨h, _⟩ | ⟨h, _⟩ <;> omega
    have hnc : ¬ chkS s = false := by simp [hc]
    have hS : stepS s v = if v.kind = 2 then takesS s v.letter else if v.c ≠ s.c then (s, []) else if v.kind = 3 then ticksS s else if v.kind = 1 ∧ s.phase = 0 ∧ v.text.size ≤ 64 then ({ s with text := v.text, phase := 1 }, []) else (s, []) := by
      unfold stepS; rw [if_neg hnc]
    rw [hS]
    by_cases h0 : s.phase = 0
    · unfold stepR
      rw [if_neg hnc, if_pos h0]
      by_cases k2 : v.kind = 2
      · rw [if_neg (by omega), if_pos k2]
        simp [takesS, h0]
      · rw [if_neg k2]
        by_cases hcc : v.c = s.c
        · by_cases k3 : v.kind = 3
          · rw [if_neg (by omega), if_neg (by simp [hcc]), if_pos k3]
            simp [ticksS, h0]
          · by_cases k1 : v.kind = 1 ∧ v.text.size ≤ 64
            · simp [k1.1, k1.2, hcc, h0]
            · rw [if_neg (show ¬(v.kind = 1 ∧ v.c = s.c ∧ v.text.size ≤ 64) from fun h => k1 ⟨h.1, h.2.2⟩), if_neg (by simp [hcc]), if_neg k3, if_neg (show ¬(v.kind = 1 ∧ s.phase = 0 ∧ v.text.size ≤ 64) from fun h => k1 ⟨h.1, h.2.2⟩)]
        · rw [if_neg (show ¬(v.kind = 1 ∧ v.c = s.c ∧ v.text.size ≤ 64) from fun h => hcc h.2.1), if_pos hcc]
    · have hfind : stepR s v = match tbl.find? (rOk s v) with | some r => rRes s v r | none => (s, []) := by
        unfold stepR; rw [if_neg hnc, if_neg h0]; rfl
      rw [hfind]
      obtain ⟨role, c, text, ph, pf⟩ := s
      obtain ⟨vk, vc, vt, vl⟩ := v
      simp only at h0 hph t1 t2 t5 t6 r1 r2 r4
      clear hfind hP hc hnc hS
      have bq : ∀ m, vl.beq m = decide (vl = m) := fun m => by rw [Bool.eq_iff_iff, Lt.beq_iff, decide_eq_true_iff]
      simp only [tbl, List.find?_cons, List.find?_nil, takesS, ticksS, rOk, want1, want2, want5, want6]
      simp only [promise, signature, instead, token, inPh, proved, bq] at *
      generalize told _ vl = td at *
      rcases hph with rfl | rfl | rfl | rfl | rfl | rfl
      · exact absurd rfl h0
      all_goals
        by_cases k2 : vk = 2
        · subst k2
          by_cases e1 : vl = ⟨1, 0, c, text, false⟩
          · have := t1.2 e1; subst this; subst e1; clear t1 t2 t5 t6 bq; simp [rRes, r1, r2, r4]
          · by_cases e2 : vl = ⟨2, 0, c, text, false⟩
            · have := t2.2 e2; subst this; subst e2; clear t1 t2 t5 t6 bq; simp [rRes, r1, r2, r4]
            · by_cases e5 : vl = ⟨5, 0, c, ⟨#[]⟩, false⟩
              · have := t5.2 e5; subst this; subst e5; clear t1 t2 t5 t6 bq; simp [rRes, r1, r2, r4]
              · by_cases e6 : vl = ⟨6, 0, c, text, false⟩
                · have := t6.2 e6; subst this; subst e6; clear t1 t2 t5 t6 bq; simp [rRes, r1, r2, r4]
                · have n1 : ¬ td = 1 := fun h => e1 (t1.1 h)
                  have n2 : ¬ td = 2 := fun h => e2 (t2.1 h)
                  have n5 : ¬ td = 5 := fun h => e5 (t5.1 h)
                  have n6 : ¬ td = 6 := fun h => e6 (t6.1 h)
                  clear t1 t2 t5 t6 bq
                  simp [rRes, e1, e2, e5, e6, n1, n2, n5, n6]
        · clear t1 t2 t5 t6 bq
          by_cases k3 : vk = 3
          · subst k3
            by_cases hcc : vc = c
            · subst hcc; simp [rRes, r1, r2, r4]
            · have hb : (vc == c) = false := by simpa using hcc
              simp [rRes, hcc, hb]
          · have hb2 : (vk == 2) = false := by simpa using k2
            have hb3 : (vk == 3) = false := by simpa using k3
            simp [rRes, k2, k3, hb2, hb3]
end Go.Gx.Ans
