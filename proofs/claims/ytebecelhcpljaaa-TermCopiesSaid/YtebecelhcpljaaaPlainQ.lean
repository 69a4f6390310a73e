/- Layer 5: what is seen on a walk over the subterms. No program in sight. -/
import Derived.Test.YtebecelhcpljaaaPlainS
set_option linter.unusedVariables false
set_option linter.unusedSimpArgs false
namespace Go.Gx.Trm
open Go Go.Gx
/-- before a walk: all that is told is seen; what is seen up to t is told -/
structure SeenP (l : List En) (bs : List Bool) (out : List Int) (t : Int) : Prop where
  len : bs.length = l.length + 1
  told : ∀ k : Nat, (k : Int) ∈ out → bs[k]? = some true
  seen : ∀ k : Nat, (k : Int) ≤ t → bs[k]? = some true → (k : Int) ∈ out
/-- after it -/
structure SeenQ (bs bs' : List Bool) (out : List Int) : Prop where
  len : bs'.length = bs.length
  iff : ∀ k : Nat, bs'[k]? = some true ↔ bs[k]? = some true ∨ (k : Int) ∈ out
theorem SeenP.mono {l : List En} {bs : List Bool} {out : List Int} {t u : Int} (h : SeenP l bs out t) (hu : u ≤ t) : SeenP l bs out u := ⟨h.len, h.told, fun k h1 h2 => h.seen k (by omega) h2⟩
theorem SeenP.same {l : List En} {bs : List Bool} {out : List Int} {t : Int} (h : SeenP l bs out t) : SeenQ bs bs out := ⟨rfl, fun k => ⟨.inl, fun g => g.elim id (h.told k)⟩⟩
theorem SeenP.at {l : List En} {bs : List Bool} {out : List Int} {i : Nat} (h : SeenP l bs out ((i : Int) + 1)) (hi : i < l.length) : bs[i + 1]? = some (decide ((i : Int) + 1 ∈ out)) := by
  have hl : i + 1 < bs.length := by have := h.len; omega
  have h0 : ((i + 1 : Nat) : Int) = (i : Int) + 1 := by omega
  have h1 := h.told (i + 1)
  have h2 := h.seen (i + 1) (by omega)
  rw [h0] at h1 h2
  have h3 : bs[i + 1]? = some bs[i + 1] := List.getElem?_eq_getElem hl
  rw [h3] at h1 h2 ⊢
  cases hb : bs[i + 1] with
  | true => rw [hb] at h2; rw [decide_eq_true (h2 rfl)]
  | false =>
    have : ¬ ((i : Int) + 1 ∈ out) := fun hm => by have := h1 hm; rw [hb] at this; cases this
    rw [decide_eq_false this]
theorem SeenP.kid {l : List En} {bs : List Bool} {out : List Int} {i : Nat} (h : SeenP l bs out ((i : Int) + 1)) : SeenP l (bs.set (i + 1) true) out (i : Int) :=
  ⟨by rw [List.length_set]; exact h.len, fun k hk => by
    by_cases hi : i + 1 = k
    · subst hi
      have := h.told _ hk
      have hl := (List.getElem?_eq_some_iff.1 this).1
      rw [List.getElem?_set_self hl]
    · rw [List.getElem?_set_ne hi]; exact h.told k hk, fun k hk hb => by
    rw [List.getElem?_set_ne (by omega)] at hb
    exact h.seen k (by omega) hb⟩
theorem SeenP.step {l : List En} {bs bs2 : List Bool} {out out2 : List Int} {t : Int} (h : SeenP l bs out t) (q : SeenQ bs bs2 out2) (hs : ∀ x ∈ out, x ∈ out2) : SeenP l bs2 out2 t :=
  ⟨by rw [q.len]; exact h.len, fun k hk => (q.iff k).2 (.inr hk), fun k hk hb => by
    rcases (q.iff k).1 hb with g | g
    · exact hs _ (h.seen k hk g)
    · exact g⟩
theorem SeenP.fin {l : List En} {bs bs2 bs3 : List Bool} {out out2 out3 : List Int} {i : Nat} (h : SeenP l bs out ((i : Int) + 1)) (hi : i < l.length) (q : SeenQ (bs.set (i + 1) true) bs2 out2) (q2 : SeenQ bs2 bs3 out3) (hs : ∀ x ∈ out2, x ∈ out3) : SeenQ bs bs3 (out3 ++ [(i : Int) + 1]) :=
  ⟨by rw [q2.len, q.len, List.length_set], fun k => by
    have hl : i + 1 < bs.length := by have := h.len; omega
    rw [q2.iff, q.iff, List.mem_append, List.mem_singleton]
    by_cases hk : i + 1 = k
    · subst hk
      rw [List.getElem?_set_self hl]
      constructor
      · intro _; exact .inr (.inr (by omega))
      · intro _; exact .inl (.inl rfl)
    · rw [List.getElem?_set_ne hk]
      constructor
      · rintro ((g | g) | g)
        · exact .inl g
        · exact .inr (.inl (hs _ g))
        · exact .inr (.inl g)
      · rintro (g | g | g)
        · exact .inl (.inl g)
        · exact .inr g
        · exfalso; omega⟩
theorem SeenP.start (l : List En) (t : Int) : SeenP l (List.replicate (l.length + 1) false) [] t :=
  ⟨by simp, by simp, fun k _ hb => by rw [List.getElem?_replicate] at hb; split at hb <;> cases hb⟩
theorem over_sub {l : List En} (hw : wfP l) {f : Nat} {t : Int} {out : List Int} : ∀ x ∈ out, x ∈ overF l f t out := fun x h => seen_mono hw h
theorem over_len {l : List En} (hw : wfP l) {f : Nat} {t : Int} {out : List Int} (h : GoodO l out) : (overF l f t out).length ≤ l.length := (over_good hw f t out h).len
theorem over_yes {l : List En} {f : Nat} {t : Int} {out : List Int} (h1 : inP l t = true) (h2 : ¬ t ∈ out) : overF l (f + 1) t out = overF l f (nodeQ l t).b (overF l f (nodeQ l t).a out) ++ [t] := by simp [overF, h1, h2]
theorem over_no {l : List En} {f : Nat} {t : Int} {out : List Int} (h : ¬ (inP l t = true ∧ ¬ t ∈ out)) : overF l f t out = out := by
  cases f with
  | zero => rfl
  | succ f => unfold overF; rw [if_neg h]
end Go.Gx.Trm
