/- Layer 17, plain: the states to which a state may come, by the program and by the document, are the same. -/
import Derived.Test.YtjflokgplehfgaaW23
set_option linter.unusedVariables false
set_option linter.unusedSimpArgs false
namespace Go.Proofs.Ytjflokgplehfgaa
open Go.Gx Go.Gx.Ans
theorem nStay {s t : Sta} {j : Nat} {v : Ev} (hv : (evs s)[j]? = some v) (ht : (stepS s v).1 = t) (h : t = s ∨ inL (accN s j) t = true) : accN s (j + 1) = accN s j := by
  rw [accN_step hv ht, if_pos]
  rcases h with h | h
  · rw [h, Sta.beq_iff.2 rfl]; rfl
  · rw [h]; simp
theorem nAdd {s t : Sta} {j : Nat} {v : Ev} (hv : (evs s)[j]? = some v) (ht : (stepS s v).1 = t) (h : ¬ t = s) (h2 : inL (accN s j) t = false) : accN s (j + 1) = accN s j ++ [t] := by
  rw [accN_step hv ht, if_neg]
  rw [h2]
  intro hh
  exact h (Sta.beq_iff.1 (by simpa using hh))
theorem rSkip {s : Sta} {j : Nat} {r : Rw} (hr : tbl[j]? = some r) (h : ¬ r.ph = s.phase) : accR s (j + 1) = accR s j := by
  rw [accR_step hr rfl, if_neg]
  simp [h]
theorem rSame {s t : Sta} {j : Nat} {r : Rw} (hr : tbl[j]? = some r) (ht : (stepR s (evR s r)).1 = t) (h : t = s) : accR s (j + 1) = accR s j := by
  rw [accR_step hr ht, if_neg]
  rw [h, Sta.beq_iff.2 rfl]; simp
theorem rAdd {s t : Sta} {j : Nat} {r : Rw} (hr : tbl[j]? = some r) (ht : (stepR s (evR s r)).1 = t) (hp : r.ph = s.phase) (h : ¬ t = s) : accR s (j + 1) = accR s j ++ [t] := by
  rw [accR_step hr ht, if_pos]
  have : t.beq s = false := by rw [Bool.eq_false_iff]; intro hb; exact h (Sta.beq_iff.1 hb)
  rw [this]; simp [hp]
theorem ph_ne {s t : Sta} (h : ¬ t.phase = s.phase) : ¬ t = s := fun e => h (by rw [e])
theorem inL_nil (t : Sta) : inL [] t = false := rfl
theorem inL_one {x t : Sta} (h : ¬ t = x) : inL [x] t = false := by
  unfold inL
  simp only [List.any_cons, List.any_nil, Bool.or_false]
  rw [Bool.eq_false_iff]; intro hb; exact h (Sta.beq_iff.1 hb)
theorem inL_two {x y t : Sta} (h : ¬ t = x) (h2 : ¬ t = y) : inL [x, y] t = false := by
  unfold inL
  simp only [List.any_cons, List.any_nil, Bool.or_false, Bool.or_eq_false_iff]
  constructor <;> (rw [Bool.eq_false_iff]; intro hb)
  · exact h (Sta.beq_iff.1 hb)
  · exact h2 (Sta.beq_iff.1 hb)
section
variable {s : Sta}
theorem chk_len (hc : chkS s = true) : (s.text.size : Int) ≤ 64 := by have := (chkS_iff.1 hc).2.1; omega
theorem tP (hc : chkS s = true) : told s (promise s 0) = 1 :=
  (told_p rfl rfl (by
    rintro (h | h | h)
    · exact h (lCheck_ok _ (by simp [promise, signature, instead]) (by simp [promise, signature, instead]) (by simp [lBad, promise, kFrom, kText, kFake]) (chk_len hc))
    · cases h
    · exact h rfl)).symm
theorem tS (hc : chkS s = true) : told s (signature s 0) = 2 :=
  (told_s rfl rfl (by
    rintro (h | h | h)
    · exact h (lCheck_ok _ (by simp [promise, signature, instead]) (by simp [promise, signature, instead]) (by simp [lBad, signature, kFrom, kText, kFake]) (chk_len hc))
    · cases h
    · exact h rfl)).symm
theorem tI_ (hc : chkS s = true) : told s (instead s) = 6 :=
  (told_i rfl rfl (by
    rintro (h | h | h)
    · exact h (lCheck_ok _ (by simp [promise, signature, instead]) (by simp [promise, signature, instead]) (by simp [lBad, instead, kFrom, kText, kFake]) (chk_len hc))
    · cases h
    · exact h rfl)).symm
theorem tT (hc : chkS s = true) : told s (token s) = 5 :=
  (told_t rfl rfl (by
    rintro (h | h | h)
    · exact h (lCheck_ok _ (by simp [token]) (by simp [token]) (by simp [lBad, token, kFrom, kText, kFake]) (by show (((⟨#[]⟩ : ByteArray).size : Nat) : Int) ≤ 64; decide))
    · cases h
    · exact h rfl)).symm
theorem stL (hc : chkS s = true) (l : Lt) : stepS s ⟨2, 0, ⟨#[]⟩, l⟩ = takesS s l := by simp [stepS, hc]
theorem stT (hc : chkS s = true) : stepS s ⟨3, s.c, ⟨#[]⟩, .zero⟩ = ticksS s := by simp [stepS, hc]
theorem wantP : evR s ⟨1, false, 1, 2, 1⟩ = ⟨2, 0, ⟨#[]⟩, promise s 0⟩ ∧ evR s ⟨2, false, 1, 2, 1⟩ = ⟨2, 0, ⟨#[]⟩, promise s 0⟩ := by simp [evR, want, promise]
theorem evK (a b d : Int) : evR s ⟨a, false, 1, b, d⟩ = ⟨2, 0, ⟨#[]⟩, promise s 0⟩ ∧ evR s ⟨a, false, 2, b, d⟩ = ⟨2, 0, ⟨#[]⟩, signature s 0⟩ ∧ evR s ⟨a, false, 6, b, d⟩ = ⟨2, 0, ⟨#[]⟩, instead s⟩ ∧ evR s ⟨a, false, 5, b, d⟩ = ⟨2, 0, ⟨#[]⟩, token s⟩ ∧ evR s ⟨a, true, 0, b, d⟩ = ⟨3, s.c, ⟨#[]⟩, .zero⟩ := by
  simp [evR, want, promise, signature, instead, token]
end
theorem next_1 {s : Sta} (hc : chkS s = true) (hp : s.phase = 1) : accN s 5 = accR s 10 := by
  have eP : (stepS s ⟨2, 0, ⟨#[]⟩, promise s 0⟩).1 = inPh s 2 := by rw [stL hc]; unfold takesS; rw [tP hc]; simp [hp]
  have eS : (stepS s ⟨2, 0, ⟨#[]⟩, signature s 0⟩).1 = s := by rw [stL hc]; unfold takesS; rw [tS hc]; simp [hp]
  have eK : (stepS s ⟨3, s.c, ⟨#[]⟩, .zero⟩).1 = inPh s 7 := by rw [stT hc]; unfold ticksS; simp [hp]
  have eI : (stepS s ⟨2, 0, ⟨#[]⟩, instead s⟩).1 = s := by rw [stL hc]; unfold takesS; rw [tI_ hc]; simp [hp]
  have eT : (stepS s ⟨2, 0, ⟨#[]⟩, token s⟩).1 = s := by rw [stL hc]; unfold takesS; rw [tT hc]; simp [hp]
  have n0 : accN s 0 = [] := rfl
  have n1 : accN s 1 = [inPh s 2] := (nAdd (j := 0) rfl eP (ph_ne (by rw [hp]; simp [inPh, proved])) (by rw [n0]; exact inL_nil _)).trans (congrArg (· ++ [inPh s 2]) n0)
  have n2 : accN s 2 = [inPh s 2] := (nStay (j := 1) rfl eS (.inl rfl)).trans n1
  have n3 : accN s 3 = [inPh s 2, inPh s 7] := (nAdd (j := 2) rfl eK (ph_ne (by rw [hp]; simp [inPh, proved])) (by rw [n2]; exact inL_one (fun e => by have := congrArg Sta.phase e; simp [inPh, proved] at this))).trans (congrArg (· ++ [inPh s 7]) n2)
  have n4 : accN s 4 = [inPh s 2, inPh s 7] := (nStay (j := 3) rfl eI (.inl rfl)).trans n3
  have n5 : accN s 5 = [inPh s 2, inPh s 7] := (nStay (j := 4) rfl eT (.inl rfl)).trans n4
  have r0 : accR s 0 = [] := rfl
  have r1 : accR s 1 = [inPh s 2] := (rAdd (j := 0) rfl (by rw [stepR_eq, (evK _ _ _).1]; exact eP) hp.symm (ph_ne (by rw [hp]; simp [inPh, proved]))).trans (congrArg (· ++ [inPh s 2]) r0)
  have r2 : accR s 2 = [inPh s 2, inPh s 7] := (rAdd (j := 1) rfl (by rw [stepR_eq, (evK _ _ _).2.2.2.2]; exact eK) hp.symm (ph_ne (by rw [hp]; simp [inPh, proved]))).trans (congrArg (· ++ [inPh s 7]) r1)
  have r3 : accR s 3 = [inPh s 2, inPh s 7] := (rSkip (j := 2) rfl (by rw [hp]; decide)).trans r2
  have r4 : accR s 4 = [inPh s 2, inPh s 7] := (rSkip (j := 3) rfl (by rw [hp]; decide)).trans r3
  have r5 : accR s 5 = [inPh s 2, inPh s 7] := (rSkip (j := 4) rfl (by rw [hp]; decide)).trans r4
  have r6 : accR s 6 = [inPh s 2, inPh s 7] := (rSkip (j := 5) rfl (by rw [hp]; decide)).trans r5
  have r7 : accR s 7 = [inPh s 2, inPh s 7] := (rSkip (j := 6) rfl (by rw [hp]; decide)).trans r6
  have r8 : accR s 8 = [inPh s 2, inPh s 7] := (rSkip (j := 7) rfl (by rw [hp]; decide)).trans r7
  have r9 : accR s 9 = [inPh s 2, inPh s 7] := (rSkip (j := 8) rfl (by rw [hp]; decide)).trans r8
  have r10 : accR s 10 = [inPh s 2, inPh s 7] := (rSkip (j := 9) rfl (by rw [hp]; decide)).trans r9
  rw [n5, r10]
theorem next_2 {s : Sta} (hc : chkS s = true) (hp : s.phase = 2) : accN s 5 = accR s 10 := by
  have eP : (stepS s ⟨2, 0, ⟨#[]⟩, promise s 0⟩).1 = s := by rw [stL hc]; unfold takesS; rw [tP hc]; simp [hp]
  have eS : (stepS s ⟨2, 0, ⟨#[]⟩, signature s 0⟩).1 = proved s (signature s 0) := by rw [stL hc]; unfold takesS; rw [tS hc]; simp [hp]
  have eK : (stepS s ⟨3, s.c, ⟨#[]⟩, .zero⟩).1 = inPh s 5 := by rw [stT hc]; unfold ticksS; simp [hp]
  have eI : (stepS s ⟨2, 0, ⟨#[]⟩, instead s⟩).1 = s := by rw [stL hc]; unfold takesS; rw [tI_ hc]; simp [hp]
  have eT : (stepS s ⟨2, 0, ⟨#[]⟩, token s⟩).1 = s := by rw [stL hc]; unfold takesS; rw [tT hc]; simp [hp]
  have n0 : accN s 0 = [] := rfl
  have n1 : accN s 1 = [] := (nStay (j := 0) rfl eP (.inl rfl)).trans n0
  have n2 : accN s 2 = [proved s (signature s 0)] := (nAdd (j := 1) rfl eS (ph_ne (by rw [hp]; simp [inPh, proved])) (by rw [n1]; exact inL_nil _)).trans (congrArg (· ++ [proved s (signature s 0)]) n1)
  have n3 : accN s 3 = [proved s (signature s 0), inPh s 5] := (nAdd (j := 2) rfl eK (ph_ne (by rw [hp]; simp [inPh, proved])) (by rw [n2]; exact inL_one (fun e => by have := congrArg Sta.phase e; simp [inPh, proved] at this))).trans (congrArg (· ++ [inPh s 5]) n2)
  have n4 : accN s 4 = [proved s (signature s 0), inPh s 5] := (nStay (j := 3) rfl eI (.inl rfl)).trans n3
  have n5 : accN s 5 = [proved s (signature s 0), inPh s 5] := (nStay (j := 4) rfl eT (.inl rfl)).trans n4
  have r0 : accR s 0 = [] := rfl
  have r1 : accR s 1 = [] := (rSkip (j := 0) rfl (by rw [hp]; decide)).trans r0
  have r2 : accR s 2 = [] := (rSkip (j := 1) rfl (by rw [hp]; decide)).trans r1
  have r3 : accR s 3 = [] := (rSame (j := 2) rfl (by rw [stepR_eq, (evK _ _ _).1]; exact eP) rfl).trans r2
  have r4 : accR s 4 = [proved s (signature s 0)] := (rAdd (j := 3) rfl (by rw [stepR_eq, (evK _ _ _).2.1]; exact eS) hp.symm (ph_ne (by rw [hp]; simp [inPh, proved]))).trans (congrArg (· ++ [proved s (signature s 0)]) r3)
  have r5 : accR s 5 = [proved s (signature s 0)] := (rSkip (j := 4) rfl (by rw [hp]; decide)).trans r4
  have r6 : accR s 6 = [proved s (signature s 0), inPh s 5] := (rAdd (j := 5) rfl (by rw [stepR_eq, (evK _ _ _).2.2.2.2]; exact eK) hp.symm (ph_ne (by rw [hp]; simp [inPh, proved]))).trans (congrArg (· ++ [inPh s 5]) r5)
  have r7 : accR s 7 = [proved s (signature s 0), inPh s 5] := (rSkip (j := 6) rfl (by rw [hp]; decide)).trans r6
  have r8 : accR s 8 = [proved s (signature s 0), inPh s 5] := (rSkip (j := 7) rfl (by rw [hp]; decide)).trans r7
  have r9 : accR s 9 = [proved s (signature s 0), inPh s 5] := (rSkip (j := 8) rfl (by rw [hp]; decide)).trans r8
  have r10 : accR s 10 = [proved s (signature s 0), inPh s 5] := (rSkip (j := 9) rfl (by rw [hp]; decide)).trans r9
  rw [n5, r10]
theorem next_5 {s : Sta} (hc : chkS s = true) (hp : s.phase = 5) : accN s 5 = accR s 10 := by
  have eP : (stepS s ⟨2, 0, ⟨#[]⟩, promise s 0⟩).1 = s := by rw [stL hc]; unfold takesS; rw [tP hc]; simp [hp]
  have eS : (stepS s ⟨2, 0, ⟨#[]⟩, signature s 0⟩).1 = proved s (signature s 0) := by rw [stL hc]; unfold takesS; rw [tS hc]; simp [hp]
  have eK : (stepS s ⟨3, s.c, ⟨#[]⟩, .zero⟩).1 = s := by rw [stT hc]; unfold ticksS inPh; simp [hp]; (try (obtain ⟨a, b, c, d, e⟩ := s; simp at hp; subst hp; rfl))
  have eI : (stepS s ⟨2, 0, ⟨#[]⟩, instead s⟩).1 = proved s (instead s) := by rw [stL hc]; unfold takesS; rw [tI_ hc]; simp [hp]
  have eT : (stepS s ⟨2, 0, ⟨#[]⟩, token s⟩).1 = inPh s 7 := by rw [stL hc]; unfold takesS; rw [tT hc]; simp [hp]
  have n0 : accN s 0 = [] := rfl
  have n1 : accN s 1 = [] := (nStay (j := 0) rfl eP (.inl rfl)).trans n0
  have n2 : accN s 2 = [proved s (signature s 0)] := (nAdd (j := 1) rfl eS (ph_ne (by rw [hp]; simp [inPh, proved])) (by rw [n1]; exact inL_nil _)).trans (congrArg (· ++ [proved s (signature s 0)]) n1)
  have n3 : accN s 3 = [proved s (signature s 0)] := (nStay (j := 2) rfl eK (.inl rfl)).trans n2
  have n4 : accN s 4 = [proved s (signature s 0), proved s (instead s)] := (nAdd (j := 3) rfl eI (ph_ne (by rw [hp]; simp [inPh, proved])) (by rw [n3]; exact inL_one (fun e => by have := congrArg (fun z : Sta => z.proof.kind) e; simp [proved, signature, instead] at this))).trans (congrArg (· ++ [proved s (instead s)]) n3)
  have n5 : accN s 5 = [proved s (signature s 0), proved s (instead s), inPh s 7] := (nAdd (j := 4) rfl eT (ph_ne (by rw [hp]; simp [inPh, proved])) (by rw [n4]; exact inL_two (fun e => by have := congrArg Sta.phase e; simp [inPh, proved] at this) (fun e => by have := congrArg Sta.phase e; simp [inPh, proved] at this))).trans (congrArg (· ++ [inPh s 7]) n4)
  have r0 : accR s 0 = [] := rfl
  have r1 : accR s 1 = [] := (rSkip (j := 0) rfl (by rw [hp]; decide)).trans r0
  have r2 : accR s 2 = [] := (rSkip (j := 1) rfl (by rw [hp]; decide)).trans r1
  have r3 : accR s 3 = [] := (rSkip (j := 2) rfl (by rw [hp]; decide)).trans r2
  have r4 : accR s 4 = [] := (rSkip (j := 3) rfl (by rw [hp]; decide)).trans r3
  have r5 : accR s 5 = [proved s (signature s 0)] := (rAdd (j := 4) rfl (by rw [stepR_eq, (evK _ _ _).2.1]; exact eS) hp.symm (ph_ne (by rw [hp]; simp [inPh, proved]))).trans (congrArg (· ++ [proved s (signature s 0)]) r4)
  have r6 : accR s 6 = [proved s (signature s 0)] := (rSkip (j := 5) rfl (by rw [hp]; decide)).trans r5
  have r7 : accR s 7 = [proved s (signature s 0)] := (rSame (j := 6) rfl (by rw [stepR_eq, (evK _ _ _).2.2.2.2]; exact eK) rfl).trans r6
  have r8 : accR s 8 = [proved s (signature s 0), proved s (instead s)] := (rAdd (j := 7) rfl (by rw [stepR_eq, (evK _ _ _).2.2.1]; exact eI) hp.symm (ph_ne (by rw [hp]; simp [inPh, proved]))).trans (congrArg (· ++ [proved s (instead s)]) r7)
  have r9 : accR s 9 = [proved s (signature s 0), proved s (instead s), inPh s 7] := (rAdd (j := 8) rfl (by rw [stepR_eq, (evK _ _ _).2.2.2.1]; exact eT) hp.symm (ph_ne (by rw [hp]; simp [inPh, proved]))).trans (congrArg (· ++ [inPh s 7]) r8)
  have r10 : accR s 10 = [proved s (signature s 0), proved s (instead s), inPh s 7] := (rSkip (j := 9) rfl (by rw [hp]; decide)).trans r9
  rw [n5, r10]
theorem next_6 {s : Sta} (hc : chkS s = true) (hp : s.phase = 6) : accN s 5 = accR s 10 := by
  have eP : (stepS s ⟨2, 0, ⟨#[]⟩, promise s 0⟩).1 = s := by rw [stL hc]; unfold takesS; rw [tP hc]; simp [hp]
  have eS : (stepS s ⟨2, 0, ⟨#[]⟩, signature s 0⟩).1 = s := by rw [stL hc]; unfold takesS; rw [tS hc]; simp [hp]
  have eK : (stepS s ⟨3, s.c, ⟨#[]⟩, .zero⟩).1 = s := by rw [stT hc]; unfold ticksS; simp [hp]
  have eI : (stepS s ⟨2, 0, ⟨#[]⟩, instead s⟩).1 = s := by rw [stL hc]; unfold takesS; rw [tI_ hc]; simp [hp]
  have eT : (stepS s ⟨2, 0, ⟨#[]⟩, token s⟩).1 = s := by rw [stL hc]; unfold takesS; rw [tT hc]; simp [hp]
  have n0 : accN s 0 = [] := rfl
  have n1 : accN s 1 = [] := (nStay (j := 0) rfl eP (.inl rfl)).trans n0
  have n2 : accN s 2 = [] := (nStay (j := 1) rfl eS (.inl rfl)).trans n1
  have n3 : accN s 3 = [] := (nStay (j := 2) rfl eK (.inl rfl)).trans n2
  have n4 : accN s 4 = [] := (nStay (j := 3) rfl eI (.inl rfl)).trans n3
  have n5 : accN s 5 = [] := (nStay (j := 4) rfl eT (.inl rfl)).trans n4
  have r0 : accR s 0 = [] := rfl
  have r1 : accR s 1 = [] := (rSkip (j := 0) rfl (by rw [hp]; decide)).trans r0
  have r2 : accR s 2 = [] := (rSkip (j := 1) rfl (by rw [hp]; decide)).trans r1
  have r3 : accR s 3 = [] := (rSkip (j := 2) rfl (by rw [hp]; decide)).trans r2
  have r4 : accR s 4 = [] := (rSkip (j := 3) rfl (by rw [hp]; decide)).trans r3
  have r5 : accR s 5 = [] := (rSkip (j := 4) rfl (by rw [hp]; decide)).trans r4
  have r6 : accR s 6 = [] := (rSkip (j := 5) rfl (by rw [hp]; decide)).trans r5
  have r7 : accR s 7 = [] := (rSkip (j := 6) rfl (by rw [hp]; decide)).trans r6
  have r8 : accR s 8 = [] := (rSkip (j := 7) rfl (by rw [hp]; decide)).trans r7
  have r9 : accR s 9 = [] := (rSkip (j := 8) rfl (by rw [hp]; decide)).trans r8
  have r10 : accR s 10 = [] := (rSame (j := 9) rfl (by rw [stepR_eq, (evK _ _ _).2.1]; exact eS) rfl).trans r9
  rw [n5, r10]
theorem next_7 {s : Sta} (hc : chkS s = true) (hp : s.phase = 7) : accN s 5 = accR s 10 := by
  have eP : (stepS s ⟨2, 0, ⟨#[]⟩, promise s 0⟩).1 = s := by rw [stL hc]; unfold takesS; rw [tP hc]; simp [hp]
  have eS : (stepS s ⟨2, 0, ⟨#[]⟩, signature s 0⟩).1 = s := by rw [stL hc]; unfold takesS; rw [tS hc]; simp [hp]
  have eK : (stepS s ⟨3, s.c, ⟨#[]⟩, .zero⟩).1 = s := by rw [stT hc]; unfold ticksS; simp [hp]
  have eI : (stepS s ⟨2, 0, ⟨#[]⟩, instead s⟩).1 = s := by rw [stL hc]; unfold takesS; rw [tI_ hc]; simp [hp]
  have eT : (stepS s ⟨2, 0, ⟨#[]⟩, token s⟩).1 = s := by rw [stL hc]; unfold takesS; rw [tT hc]; simp [hp]
  have n0 : accN s 0 = [] := rfl
  have n1 : accN s 1 = [] := (nStay (j := 0) rfl eP (.inl rfl)).trans n0
  have n2 : accN s 2 = [] := (nStay (j := 1) rfl eS (.inl rfl)).trans n1
  have n3 : accN s 3 = [] := (nStay (j := 2) rfl eK (.inl rfl)).trans n2
  have n4 : accN s 4 = [] := (nStay (j := 3) rfl eI (.inl rfl)).trans n3
  have n5 : accN s 5 = [] := (nStay (j := 4) rfl eT (.inl rfl)).trans n4
  have r0 : accR s 0 = [] := rfl
  have r1 : accR s 1 = [] := (rSkip (j := 0) rfl (by rw [hp]; decide)).trans r0
  have r2 : accR s 2 = [] := (rSkip (j := 1) rfl (by rw [hp]; decide)).trans r1
  have r3 : accR s 3 = [] := (rSkip (j := 2) rfl (by rw [hp]; decide)).trans r2
  have r4 : accR s 4 = [] := (rSkip (j := 3) rfl (by rw [hp]; decide)).trans r3
  have r5 : accR s 5 = [] := (rSkip (j := 4) rfl (by rw [hp]; decide)).trans r4
  have r6 : accR s 6 = [] := (rSkip (j := 5) rfl (by rw [hp]; decide)).trans r5
  have r7 : accR s 7 = [] := (rSkip (j := 6) rfl (by rw [hp]; decide)).trans r6
  have r8 : accR s 8 = [] := (rSkip (j := 7) rfl (by rw [hp]; decide)).trans r7
  have r9 : accR s 9 = [] := (rSkip (j := 8) rfl (by rw [hp]; decide)).trans r8
  have r10 : accR s 10 = [] := (rSkip (j := 9) rfl (by rw [hp]; decide)).trans r9
  rw [n5, r10]
theorem next_eq (s : Sta) : nextS s = nextR s := by
  unfold nextS nextR
  by_cases hp : s.phase = 0
  · rw [if_pos hp, if_pos (.inr hp)]
  · rw [if_neg hp]
    cases hc : chkS s with
    | false =>
      rw [if_pos (.inl rfl)]
      have e : ∀ v : Ev, (stepS s v).1 = s := fun v => by simp [stepS, hc]
      have n1 : accN s 1 = [] := nStay (j := 0) rfl (e _) (.inl rfl)
      have n2 : accN s 2 = [] := (nStay (j := 1) rfl (e _) (.inl rfl)).trans n1
      have n3 : accN s 3 = [] := (nStay (j := 2) rfl (e _) (.inl rfl)).trans n2
      have n4 : accN s 4 = [] := (nStay (j := 3) rfl (e _) (.inl rfl)).trans n3
      exact (nStay (j := 4) rfl (e _) (.inl rfl)).trans n4
    | true =>
      rw [if_neg (by simp [hp])]
      have h := (chkS_iff.1 hc).2.2
      rcases h with ⟨h, _⟩ | ⟨h | h | h | h, _⟩ | ⟨h, _⟩
      · exact absurd h hp
      · exact next_1 hc h
      · exact next_2 hc h
      · exact next_5 hc h
      · exact next_7 hc h
      · exact next_6 hc h
theorem nextR_len (s : Sta) : (nextR s).length ≤ 5 := by
  rw [← next_eq]
  unfold nextS
  split
  · exact Nat.zero_le _
  · exact accN_len s 5
end Go.Proofs.Ytjflokgplehfgaa
