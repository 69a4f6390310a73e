/- Layer 18: tables that are loaded, as plain data. No program in sight. -/
import Derived.Test.YtjmkoojojbfgpaaModel
set_option linter.unusedVariables false
set_option linter.unusedSimpArgs false
namespace Go.Gx.Ver
open Go.Gx Go.RowKit
/-- each verdict went in in its turn -/
def Tb.good (t : Tb) : Prop := ∀ (k : Nat) (v : Vt), t.l[k]? = some v → (Tb.mk t.most (t.l.take k)).putE v = 0
theorem putE_zero {t : Tb} {v : Vt} (h : t.putE v = 0) : Go.Gx.Ver.right v = true ∧ t.of v.c = none ∧ t.full = false := by
  unfold Tb.putE at h
  split at h
  · cases h
  · rename_i h1
    split at h
    · cases h
    · rename_i h2
      split at h
      · cases h
      · rename_i h3
        refine ⟨by simpa using h1, ?_, by simpa using h3⟩
        cases ho : t.of v.c with
        | none => rfl
        | some u => rw [ho] at h2; simp at h2
theorem put_ok {t : Tb} {v : Vt} (h : t.putE v = 0) : t.put v = ⟨t.most, t.l ++ [v]⟩ := by unfold Tb.put; rw [if_pos h]
theorem put_no {t : Tb} {v : Vt} (h : ¬ t.putE v = 0) : t.put v = t := by unfold Tb.put; rw [if_neg h]
theorem Tb.ok.put {t : Tb} (hk : t.ok) (v : Vt) : (t.put v).ok := by
  by_cases h : t.putE v = 0
  · rw [put_ok h]
    obtain ⟨hr, _, hf⟩ := putE_zero h
    refine ⟨hk.lo, hk.hi, ?_, ?_⟩
    · have h1 := hk.le
      have h2 : ¬ t.most - (t.l.length : Int) = 0 := by simpa [Tb.full] using hf
      show ((t.l ++ [v]).length : Int) ≤ t.most
      simp; omega
    · intro u hu
      rcases List.mem_append.1 hu with hu | hu
      · exact hk.right u hu
      · rw [List.mem_singleton.1 hu]; exact hr
  · rw [put_no h]; exact hk
theorem Tb.good.put {t : Tb} (hg : t.good) (v : Vt) : (t.put v).good := by
  by_cases h : t.putE v = 0
  · rw [put_ok h]
    intro k u hu
    have hu : (t.l ++ [v])[k]? = some u := hu
    show (Tb.mk t.most ((t.l ++ [v]).take k)).putE u = 0
    by_cases hk : k < t.l.length
    · rw [List.getElem?_append_left hk] at hu
      rw [List.take_append_of_le_length (by omega)]
      exact hg k u hu
    · rw [List.getElem?_append_right (by omega)] at hu
      have hk0 : k - t.l.length = 0 := by
        have := (List.getElem?_eq_some_iff.1 hu).1
        simp at this; omega
      rw [hk0] at hu
      cases hu
      have : k = t.l.length := by omega
      subst this
      rw [List.take_append_of_le_length (by omega), List.take_length]
      exact h
  · rw [put_no h]; exact hg
theorem good_nil (m : Int) : (Tb.mk m []).good := by intro k v h; simp at h
theorem ok_nil (m : Int) (h1 : 1 ≤ m) (h2 : m ≤ 64) : (Tb.mk m []).ok := ⟨h1, h2, by show ((0:Nat):Int) ≤ m; omega, by simp⟩
/-- one more -/
theorem take_put {m : Int} {l : List Vt} {k : Nat} {v : Vt} (hv : l[k]? = some v) (h : (Tb.mk m (l.take k)).putE v = 0) : (Tb.mk m (l.take k)).put v = ⟨m, l.take (k + 1)⟩ := by
  rw [put_ok h]
  show Tb.mk m (l.take k ++ [v]) = _
  congr 1
  rw [List.take_add_one, hv]; rfl
/-- the ways of a list of verdicts -/
inductive LoadW (m : Int) (l : List Vt) : Prop where
  | good (h : (Tb.mk m l).good)
  | bad (n : Nat) (v : Vt) (hv : l[n]? = some v) (h : ∀ k u, k < n → l[k]? = some u → (Tb.mk m (l.take k)).putE u = 0) (hn : ¬ (Tb.mk m (l.take n)).putE v = 0)
theorem load_ways (m : Int) (l : List Vt) : LoadW m l := by
  have key : ∀ n, n ≤ l.length → (∀ k u, k < n → l[k]? = some u → (Tb.mk m (l.take k)).putE u = 0) ∨ LoadW m l := by
    intro n
    induction n with
    | zero => intro _; exact .inl (fun k u hk => absurd hk (Nat.not_lt_zero _))
    | succ n ih =>
      intro hn
      rcases ih (by omega) with h | h
      · obtain ⟨v, hv⟩ : ∃ v, l[n]? = some v := ⟨_, List.getElem?_eq_getElem (by omega)⟩
        by_cases h0 : (Tb.mk m (l.take n)).putE v = 0
        · refine .inl fun k u hk hu => ?_
          by_cases hkn : k = n
          · subst hkn; rw [hv] at hu; cases hu; exact h0
          · exact h k u (by omega) hu
        · exact .inr (.bad n v hv h h0)
      · exact .inr h
  rcases key l.length (Nat.le_refl _) with h | h
  · exact .good fun k u hu => h k u (List.getElem?_eq_some_iff.1 hu).1 hu
  · exact h
theorem Tb.ok.take {m : Int} {l : List Vt} (h1 : 1 ≤ m) (h2 : m ≤ 64) : ∀ n, n ≤ l.length → (∀ k u, k < n → l[k]? = some u → (Tb.mk m (l.take k)).putE u = 0) → (Tb.mk m (l.take n)).ok := by
  intro n
  induction n with
  | zero => intro _ _; exact ok_nil m h1 h2
  | succ n ih =>
    intro hn h
    obtain ⟨v, hv⟩ : ∃ v, l[n]? = some v := ⟨_, List.getElem?_eq_getElem (by omega)⟩
    have := (ih (by omega) (fun k u hk hu => h k u (by omega) hu)).put v
    rwa [take_put hv (h n v (by omega) hv)] at this
theorem good_ok {m : Int} {l : List Vt} (h1 : 1 ≤ m) (h2 : m ≤ 64) (h : (Tb.mk m l).good) : (Tb.mk m l).ok := by
  have := Tb.ok.take h1 h2 l.length (Nat.le_refl _) (fun k u _ hu => h k u hu)
  rwa [List.take_length] at this
theorem good_ask {t : Tb} (hk : t.ok) (hg : t.good) (i : Lt) : (t.ask i).1.good := by
  rcases ask_ways hk i with ⟨_, e, _⟩ | ⟨_, _, _, _, e, _, _⟩ | ⟨_, _, _, _, e, _⟩ | ⟨v, _, ho, hf, e, _, hr, hc⟩ <;> rw [e]
  · exact hg
  · exact hg
  · exact hg
  · have h0 : t.putE v = 0 := by unfold Tb.putE; rw [hc, ho, hr, hf]; rfl
    have := hg.put v
    rwa [put_ok h0] at this
end Go.Gx.Ver
