import Derived.Test.YtjflokgplehfgaaQ2
set_option linter.unusedVariables false
set_option linter.unusedSimpArgs false
namespace Go.Gx.Ans
/-- does a line of the table fit? -/
def rOk (s : Sta) (v : Ev) (r : Rw) : Bool :=
  r.ph == s.phase && !(r.tick && (!(v.kind == 3) || !(v.c == s.c))) && !(!r.tick && (!(v.kind == 2) || !(v.letter.beq (want s r.kind))))
noncomputable def rRes (s : Sta) (v : Ev) (r : Rw) : Sta × List Ot :=
  let q := if r.to = 6 ∧ s.phase ≠ 6 then v.letter else s.proof
  let l : Lt := ⟨r.send, 1, s.c, s.text, false⟩
  (⟨s.role, s.c, s.text, r.to, q⟩, if r.send = 0 then [] else [⟨toR l, l⟩])
noncomputable def stepR (s : Sta) (v : Ev) : Sta × List Ot :=
  if chkS s = false then (s, [])
  else if s.phase = 0 then (if v.kind = 1 ∧ v.c = s.c ∧ v.text.size ≤ 64 then ({ s with text := v.text, phase := 1 }, []) else (s, []))
  else match tbl.find? (rOk s v) with
    | some r => rRes s v r
    | none => (s, [])
theorem stepR_hit {s : Sta} {v : Ev} {k : Nat} {r : Rw} (h1 : chkS s = true) (h2 : ¬ s.phase = 0) (hr : tbl[k]? = some r) (hn : ∀ j < k, ∀ x, tbl[j]? = some x → rOk s v x = false) (ho : rOk s v r = true) : stepR s v = rRes s v r := by
  have : tbl.find? (rOk s v) = some r := by
    rw [List.find?_eq_some_iff_append]
    obtain ⟨hlt, rfl⟩ := List.getElem?_eq_some_iff.1 hr
    refine ⟨ho, tbl.take k, tbl.drop (k + 1), ?_, fun x hx => ?_⟩
    · rw [← List.drop_eq_getElem_cons hlt, List.take_append_drop]
    · obtain ⟨j, hj, rfl⟩ := List.mem_iff_getElem.1 hx
      simp only [List.length_take] at hj
      rw [List.getElem_take]
      rw [hn j (by omega) _ (List.getElem?_eq_getElem (by omega))]; rfl
  unfold stepR
  rw [if_neg (by simp [h1]), if_neg h2, this]
theorem stepR_none {s : Sta} {v : Ev} (h1 : chkS s = true) (h2 : ¬ s.phase = 0) (hn : ∀ j < 10, ∀ x, tbl[j]? = some x → rOk s v x = false) : stepR s v = (s, []) := by
  have : tbl.find? (rOk s v) = none := by
    rw [List.find?_eq_none]
    intro x hx
    obtain ⟨j, hj, rfl⟩ := List.mem_iff_getElem.1 hx
    simp [hn j hj _ (List.getElem?_eq_getElem hj)]
  unfold stepR
  rw [if_neg (by simp [h1]), if_neg h2, this]
end Go.Gx.Ans
namespace Go.Gx.Ans
theorem no_ext {s : Sta} {v : Ev} {k : Nat} {r : Rw} (hno : ∀ j < k, ∀ x, tbl[j]? = some x → rOk s v x = false) (hr : tbl[k]? = some r) (hf : rOk s v r = false) : ∀ j < k + 1, ∀ x, tbl[j]? = some x → rOk s v x = false := by
  intro j hj x hx
  by_cases h : j = k
  · subst h; rw [hr] at hx; cases hx; exact hf
  · exact hno j (by omega) x hx
theorem tbl_row {k : Nat} (hk : k < 10) : ∃ r : Rw, tbl[k]? = some r ∧ (tblC.drop (k * 5)).take 5 = r.cells := by
  have : k = 0 ∨ k = 1 ∨ k = 2 ∨ k = 3 ∨ k = 4 ∨ k = 5 ∨ k = 6 ∨ k = 7 ∨ k = 8 ∨ k = 9 := by omega
  rcases this with rfl | rfl | rfl | rfl | rfl | rfl | rfl | rfl | rfl | rfl <;> exact ⟨_, rfl, rfl⟩
theorem tblC_len : tblC.length = 50 := rfl
def StepPost (w0 : World) (D : Nat → Prop) (R : List Ent) (x : Sta × List Ot) (e : Ending) (w' : World) : Prop :=
  ∃ a c, e = .returned (.tuple #[.agg x.1.cells.toArray, .slice (adr a 0) x.2.length c]) ∧ Hp w0 D (⟨a, outs x.2, 40, x.2.length * 6⟩ :: R) w'
end Go.Gx.Ans
theorem Go.Gx.Hp.name {w0 w : Go.World} {D : Nat → Prop} {L : List Go.Gx.Ent} (H : Go.Gx.Hp w0 D L w) : ∃ L', L' = L ∧ Go.Gx.Hp w0 D L' w := ⟨L, rfl, H⟩
