import Derived.Test.YtajconlnacbmjaaLaw
import Derived.Test.YtajconlnacbmjaaLaw
set_option linter.unusedVariables false
set_option linter.unusedSimpArgs false
namespace Go.Gx.Net
open Go.Gx
/-- what holds of a net that is sent over and delivered from in order -/
structure OrdI (s : St) (sent : List Pk) (at_ k : Nat) : Prop where
  fl : s.fl = sent.drop at_
  le : at_ ≤ sent.length
  cut : ∀ j, s.cut j = false
  all : ∀ p ∈ sent, linkB p.src p.dst = true ∧ p.held = 0
  len : sent.length ≤ k
theorem OrdI.zero : OrdI St.zero [] 0 0 := ⟨rfl, Nat.le_refl _, fun _ => rfl, by simp, Nat.le_refl _⟩
theorem OrdI.ok {s : St} {sent : List Pk} {a k : Nat} (h : OrdI s sent a k) : s.ok := by
  intro p hp
  rw [h.fl] at hp
  obtain ⟨h1, h2⟩ := h.all p (List.mem_of_mem_drop hp)
  exact ⟨h1, by omega, by omega⟩
theorem OrdI.flen {s : St} {sent : List Pk} {a k : Nat} (h : OrdI s sent a k) : s.fl.length ≤ k := by
  rw [h.fl, List.length_drop]; have := h.len; omega
theorem OrdI.send0 {s s' : St} {sent : List Pk} {n k : Nat} {a b x : Int} {t : ByteArray} (h : OrdI s sent n k) (hs : s.send a b t = (s', x, 0)) : OrdI s' (sent ++ [⟨x, a, b, t, 0⟩]) n (k + 1) := by
  unfold St.send at hs
  split at hs
  · simp at hs
  · split at hs
    · simp at hs
    · split at hs
      · simp at hs
      · rename_i h1 _ _
        simp only [Prod.mk.injEq, and_true] at hs
        obtain ⟨rfl, rfl⟩ := hs
        refine ⟨?_, ?_, h.cut, ?_, ?_⟩
        · show s.fl ++ [_] = _
          rw [List.drop_append_of_le_length h.le, ← h.fl]
        · have := h.le; simp; omega
        · intro p hp
          simp only [List.mem_append, List.mem_singleton] at hp
          rcases hp with hp | rfl
          · exact h.all p hp
          · exact ⟨by simpa using h1, rfl⟩
        · have := h.len; simp; omega
theorem send_ne {s s' : St} {a b x y : Int} {t : ByteArray} (hs : s.send a b t = (s', x, y)) (hy : ¬ y = 0) : s' = s := by
  unfold St.send at hs
  repeat' split at hs
  all_goals simp only [Prod.mk.injEq] at hs
  all_goals first | exact hs.1.symm | (exfalso; exact hy hs.2.2.symm)
theorem OrdI.send1 {s s' : St} {sent : List Pk} {n k : Nat} {a b x y : Int} {t : ByteArray} (h : OrdI s sent n k) (hs : s.send a b t = (s', x, y)) (hy : ¬ y = 0) : OrdI s' sent n (k + 1) := by
  rw [send_ne hs hy]; exact ⟨h.fl, h.le, h.cut, h.all, by have := h.len; omega⟩
theorem OrdI.del {s : St} {sent : List Pk} {n k : Nat} {q : Pk} (h : OrdI s sent n k) (hq : sent[n]? = some q) : ∃ s1, s.deliver 0 = (s1, q, 0) ∧ OrdI s1 sent (n + 1) (k + 1) := by
  obtain ⟨hlt, rfl⟩ := List.getElem?_eq_some_iff.1 hq
  have hf : s.fl = sent[n] :: sent.drop (n + 1) := by rw [h.fl, List.drop_eq_getElem_cons hlt]
  have hp : s.pk 0 = sent[n] := by unfold St.pk; rw [hf]; rfl
  have hh := (h.all _ (List.getElem_mem hlt)).2
  have hr : s.ready 0 = 0 := by
    have : placeB s 0 = true := by unfold placeB; rw [hf, List.length_cons]; simp
    unfold St.ready
    rw [if_neg (by simp [this]), hp, if_neg (by omega), h.cut, if_neg (by simp)]
  refine ⟨(s.deliver 0).1, ?_, ?_⟩
  · simp [St.deliver, hr, hp]
  · have e : (s.deliver 0).1 = { s.out 0 with came := upd s.came (at2 (s.pk 0).src (s.pk 0).dst) (inc (s.came (at2 (s.pk 0).src (s.pk 0).dst))) } := by simp [St.deliver, hr]
    rw [e]
    refine ⟨?_, by omega, h.cut, h.all, by have := h.len; omega⟩
    show s.fl.eraseIdx 0 = _
    rw [hf]; rfl
theorem OrdI.no {s : St} {sent : List Pk} {n k : Nat} (h : OrdI s sent n k) (hq : ¬ n < sent.length) : s.deliver 0 = (s, Pk.zero, 7) := by
  have hf : s.fl = [] := by rw [h.fl, List.drop_eq_nil_iff]; omega
  have hr : s.ready 0 = 7 := by
    have : placeB s 0 = false := by simp [placeB, hf]
    simp [St.ready, this]
  simp [St.deliver, hr]
theorem OrdI.mono {s : St} {sent : List Pk} {n k : Nat} (h : OrdI s sent n k) : OrdI s sent n (k + 1) := ⟨h.fl, h.le, h.cut, h.all, by have := h.len; omega⟩
end Go.Gx.Net
