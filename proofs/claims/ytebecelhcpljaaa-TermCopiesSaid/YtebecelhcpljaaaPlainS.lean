/- Layer 5: the subterms of a term, each once. No program in sight. -/
import Derived.Test.YtebecelhcpljaaaPlainO
set_option linter.unusedVariables false
set_option linter.unusedSimpArgs false
namespace Go.Gx.Trm
open Go Go.Gx
def overF (l : List En) : Nat → Int → List Int → List Int
  | 0, _, out => out
  | f + 1, t, out => if inP l t = true ∧ ¬ t ∈ out then overF l f (nodeQ l t).b (overF l f (nodeQ l t).a out) ++ [t] else out
theorem kids_lt {l : List En} (hw : wfP l) {t : Int} (h : inP l t = true) : (0 ≤ (nodeQ l t).a ∧ (nodeQ l t).a < t) ∧ (0 ≤ (nodeQ l t).b ∧ (nodeQ l t).b < t) := by
  obtain ⟨i, e, rfl, _, hg, _⟩ := entP_in h
  rw [nodeQ_some hg]
  have := (hw.wf i e hg).lt
  omega
theorem over_ext {l : List En} (hw : wfP l) : ∀ (f : Nat) (t : Int) (out : List Int), ∃ m, overF l f t out = out ++ m ∧ ∀ x ∈ m, inP l x = true ∧ x ≤ t
  | 0, t, out => ⟨[], by simp [overF], by simp⟩
  | f + 1, t, out => by
    unfold overF
    split
    · rename_i h
      have hk := kids_lt hw h.1
      obtain ⟨m1, h1, h2⟩ := over_ext hw f (nodeQ l t).a out
      obtain ⟨m2, h3, h4⟩ := over_ext hw f (nodeQ l t).b (overF l f (nodeQ l t).a out)
      refine ⟨m1 ++ m2 ++ [t], by rw [h3, h1]; simp [List.append_assoc], ?_⟩
      intro x hx
      rcases List.mem_append.1 hx with hx | hx
      · rcases List.mem_append.1 hx with hx | hx
        · have := h2 x hx; exact ⟨this.1, by omega⟩
        · have := h4 x hx; exact ⟨this.1, by omega⟩
      · rw [List.mem_singleton.1 hx]; exact ⟨h.1, Int.le_refl _⟩
    · exact ⟨[], by simp, by simp⟩
structure GoodO (l : List En) (out : List Int) : Prop where
  nd : out.Nodup
  mem : ∀ x ∈ out, inP l x = true
theorem over_good {l : List En} (hw : wfP l) : ∀ (f : Nat) (t : Int) (out : List Int), GoodO l out → GoodO l (overF l f t out)
  | 0, t, out, h => by simpa [overF] using h
  | f + 1, t, out, h => by
    unfold overF
    split
    · rename_i ht
      have hk := kids_lt hw ht.1
      have g1 := over_good hw f (nodeQ l t).a out h
      have g2 := over_good hw f (nodeQ l t).b _ g1
      obtain ⟨m1, h1, h2⟩ := over_ext hw f (nodeQ l t).a out
      obtain ⟨m2, h3, h4⟩ := over_ext hw f (nodeQ l t).b (overF l f (nodeQ l t).a out)
      have hnt : ¬ t ∈ overF l f (nodeQ l t).b (overF l f (nodeQ l t).a out) := by
        rw [h3, h1]
        intro hx
        rcases List.mem_append.1 hx with hx | hx
        · rcases List.mem_append.1 hx with hx | hx
          · exact ht.2 hx
          · have := (h2 t hx).2; omega
        · have := (h4 t hx).2; omega
      refine ⟨?_, ?_⟩
      · rw [List.nodup_append]
        refine ⟨g2.nd, by simp, ?_⟩
        intro a ha b hb hab
        rw [List.mem_singleton.1 hb] at hab
        rw [hab] at ha
        exact hnt ha
      · intro x hx
        rcases List.mem_append.1 hx with hx | hx
        · exact g2.mem x hx
        · rw [List.mem_singleton.1 hx]; exact ht.1
    · exact h
theorem nodup_len : ∀ (n : Nat) (l : List Int), l.Nodup → (∀ x ∈ l, 1 ≤ x ∧ x ≤ n) → l.length ≤ n
  | 0, l, _, h => by
    cases l with
    | nil => simp
    | cons x l => have := h x (by simp); omega
  | n + 1, l, hn, h => by
    by_cases hm : ((n + 1 : Nat) : Int) ∈ l
    · have h1 := nodup_len n (l.erase ((n + 1 : Nat) : Int)) (hn.erase _) (fun x hx => by
        have hx2 := (hn.mem_erase_iff).1 hx
        have := h x hx2.2
        have hne := hx2.1
        omega)
      rw [List.length_erase_of_mem hm] at h1
      omega
    · have h1 := nodup_len n l hn (fun x hx => by
        have := h x hx
        have hne : x ≠ ((n + 1 : Nat) : Int) := fun e => hm (e ▸ hx)
        omega)
      omega
theorem GoodO.len {l : List En} {out : List Int} (h : GoodO l out) : out.length ≤ l.length := nodup_len _ _ h.nd (fun x hx => inP_bd (h.mem x hx))
theorem GoodO.nil (l : List En) : GoodO l [] := ⟨by simp, by simp⟩
/-- what is seen below a term is what is told, whatever stands above -/
def SeenB (seen : Int → Bool) (t : Int) (out : List Int) : Prop := ∀ k, 1 ≤ k → k ≤ t → (seen k = true ↔ k ∈ out)
theorem seen_mono {l : List En} (hw : wfP l) {f : Nat} {t : Int} {out : List Int} {k : Int} (h : k ∈ out) : k ∈ overF l f t out := by
  obtain ⟨m, h1, _⟩ := over_ext hw f t out
  rw [h1]; exact List.mem_append_left _ h
/-- the subterms -/
def subsP (l : List En) (t : Int) : List Int := overF l l.length t []
theorem subs_good {l : List En} (hw : wfP l) (t : Int) : GoodO l (subsP l t) := over_good hw _ _ _ (GoodO.nil l)
end Go.Gx.Trm
