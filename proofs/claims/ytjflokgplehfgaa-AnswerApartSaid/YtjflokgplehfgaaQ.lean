import Derived.Test.YtjflokgplehfgaaP
set_option linter.unusedVariables false
set_option linter.unusedSimpArgs false
namespace Go.Gx.Ans
theorem tz1 {s : Sta} {l : Lt} (h : ¬ l.c = s.c) : told s l = 0 := told_no (.inr (.inr h))
theorem tz2 {s : Sta} {l : Lt} (h : l.fake = true) : told s l = 0 := told_no (.inr (.inl h))
theorem tz3 {s : Sta} {l : Lt} (h : ¬ lCheck l = 0) : told s l = 0 := told_no (.inl h)
theorem tz_of {s : Sta} {l : Lt} (h : ∀ k : Lt, l = k → k = promise s 0 ∨ k = signature s 0 ∨ k = instead s ∨ k = token s → False) : told s l = 0 := by
  by_cases hn : toldNo s l
  · exact told_no hn
  · refine told_none hn ?_
    rw [Bool.eq_false_iff]
    intro ht
    refine h l rfl ?_
    simpa [toldYes, Lt.beq_iff, or_assoc] using ht
theorem tz4 {s : Sta} {l : Lt} (hk : l.kind = 1 ∨ l.kind = 2 ∨ l.kind = 6) (h : ¬ l.text = s.text) : told s l = 0 :=
  tz_of fun k e hh => by
    subst e
    rcases hh with e | e | e | e <;> rw [e] at h hk <;> simp [promise, signature, instead, token] at h hk
theorem tz5 {s : Sta} {l : Lt} (h : ¬ l.src = 0) : told s l = 0 :=
  tz_of fun k e hh => by
    subst e
    rcases hh with e | e | e | e <;> rw [e] at h <;> simp [promise, signature, instead, token] at h
theorem step_zero {s : Sta} {l : Lt} {c : Int} {t : ByteArray} (h : told s l = 0) : stepS s ⟨2, c, t, l⟩ = (s, []) := by
  unfold stepS
  cases hc : chkS s with
  | false => simp
  | true =>
    simp only [Bool.true_eq_false, if_false, if_true]
    unfold takesS
    rw [h]
    repeat' split
    all_goals first | rfl | simp_all
theorem ap1 {s s' : Sta} {l : Lt} {c : Int} {t : ByteArray} {o : List Ot} (h : s'.beq s = false) (hr : stepS s ⟨2, c, t, l⟩ = (s', o)) (hz : told s l = 0) : False := by
  rw [step_zero hz] at hr
  have e : s = s' := congrArg Prod.fst hr
  have := Sta.beq_iff.2 e.symm
  rw [h] at this; cases this
theorem ap2 {s s' : Sta} {l : Lt} {c : Int} {t : ByteArray} {o : List Ot} (h : ¬ (o.length : Int) = 0) (hr : stepS s ⟨2, c, t, l⟩ = (s', o)) (hz : told s l = 0) : False := by
  rw [step_zero hz] at hr
  have e : [] = o := congrArg Prod.snd hr
  subst e
  exact h rfl
end Go.Gx.Ans
