/- Layer 5: a tree that came in, opened. -/
import Derived.Test.YtebecelhcpljaaaTree
import Derived.Test.YtebecelhcpljaaaTab
set_option linter.unusedVariables false
set_option linter.unusedSimpArgs false
namespace Go.Proofs.Ytebecelhcpljaaa
open Go.Gx Go.Gx.Trm Go.RowKit Go.ChangeShapes Go.WideShapes Go.ChangeAt
set_option maxRecDepth 100000
/-- the same of a tree that came in -/
inductive TrA (w0 : World) (D : Nat → Prop) : Tr → Prop where
  | mk {k f d n : Int} {t : ByteArray} {a : Option Addr} {c : Nat} {ks : List Tr} (h : RdA w0 D a (rowsT ks)) (hc : ks.length ≤ c) (hm : c ≤ maxLen) (hs : ∀ x ∈ ks, TrA w0 D x) : TrA w0 D (.mk k f d n t a c ks)
theorem TrA.rd {w0 : World} {D : Nat → Prop} : ∀ {t : Tr}, TrA w0 D t → ∀ R, TrR w0 D R t := fun h R => by
  induction h with
  | mk h hc hm hs ih => exact .mk (h.rd R) hc (by have h9 : maxLen ≤ 9223372036854775807 := (by unfold maxLen; omega); omega) ih
theorem rowsT_flat (l : List Tr) : (l.map Tr.cells).flatten = rowsT l := by simp [rowsT, List.flatMap]
section
variable {H : Type} {enc : TypeId × Value → H} {W : World}
theorem parts_less {P : Program} {base : Nat} {spare : Nat → Bool} {held : Bool} {fs : Array Field} {t : TypeId} {fuel : Nat} {cs : List Value} {x : DataW H × List MemPlace} (hu : P.underlying t = some (.struct fs)) (h : DataW.trod enc P W base spare held fuel t cs = some x) :
    ∃ (m : Nat) (xs : List (DataW H × List MemPlace)), fuel = m + 1 ∧ cs.length = P.cellsOf t ∧ fs.toList.mapM (fun f => DataW.trod enc P W base spare held m f.type ((cs.drop f.offset).take (P.cellsOf f.type))) = some xs := by
  cases fuel with
  | zero => cases h
  | succ m =>
    unfold DataW.trod at h
    rw [hu] at h
    simp only at h
    by_cases hc : cs.length = P.cellsOf t
    · rw [if_pos hc] at h
      cases hm : fs.toList.mapM (fun f => DataW.trod enc P W base spare held m f.type ((cs.drop f.offset).take (P.cellsOf f.type))) with
      | none => rw [hm] at h; cases h
      | some xs => exact ⟨m, xs, rfl, hc, hm⟩
    · rw [if_neg hc] at h; cases h
theorem list6 {α : Type} {l : List α} (h : l.length = 6) : ∃ a b c d e f, l = [a, b, c, d, e, f] := by
  match l, h with
  | [a, b, c, d, e, f], _ => exact ⟨a, b, c, d, e, f, rfl⟩
theorem open_tree : ∀ (fuel : Nat) (cs : List Value) (x : DataW H × List MemPlace), DataW.trod enc Try.prog W 0 (fun _ => true) true fuel 50 cs = some x → ∃ t : Tr, cs = t.cells ∧ TrA W (fun _ => False) t := by
  intro fuel
  induction fuel using Nat.strongRecOn with
  | ind fuel ih =>
  intro cs x h
  obtain ⟨m, xs, rfl, hlen, hm⟩ := parts_less Try.underlying50 h
  have k50 : Try.prog.cellsOf 50 = 6 := by kernel_rfl
  have k3 : Try.prog.cellsOf 3 = 1 := by kernel_rfl
  have k31 : Try.prog.cellsOf 31 = 1 := by kernel_rfl
  have k9 : Try.prog.cellsOf 9 = 1 := by kernel_rfl
  have k47 : Try.prog.cellsOf 47 = 1 := by kernel_rfl
  rw [k50] at hlen
  obtain ⟨a0, a1, a2, a3, a4, a5, rfl⟩ := list6 hlen
  obtain ⟨y0, g0, _⟩ := mapM_at hm 0 _ rfl
  obtain ⟨y1, g1, _⟩ := mapM_at hm 1 _ rfl
  obtain ⟨y2, g2, _⟩ := mapM_at hm 2 _ rfl
  obtain ⟨y3, g3, _⟩ := mapM_at hm 3 _ rfl
  obtain ⟨y4, g4, _⟩ := mapM_at hm 4 _ rfl
  obtain ⟨y5, g5, _⟩ := mapM_at hm 5 _ rfl
  have f0 : Fits [.i .i64] _ := fits_of_trod 6 3 [.i .i64] (by kernel_rfl) _ _ _ g0
  have f1 : Fits [.i .i64] _ := fits_of_trod 6 3 [.i .i64] (by kernel_rfl) _ _ _ g1
  have f2 : Fits [.i .i64] _ := fits_of_trod 6 3 [.i .i64] (by kernel_rfl) _ _ _ g2
  have f3 : Fits [.i .u64] _ := fits_of_trod 6 31 [.i .u64] (by kernel_rfl) _ _ _ g3
  have f4 : Fits [.s] _ := fits_of_trod 6 9 [.s] (by kernel_rfl) _ _ _ g4
  obtain ⟨x0, _, e0, _, rfl⟩ := f0
  obtain ⟨x1, _, e1, _, rfl⟩ := f1
  obtain ⟨x2, _, e2, _, rfl⟩ := f2
  obtain ⟨x3, _, e3, _, rfl⟩ := f3
  obtain ⟨x4, _, e4, _, rfl⟩ := f4
  simp [k3] at e0 e1 e2
  simp [k31] at e3
  simp [k9] at e4
  subst e0 e1 e2 e3 e4
  have g5' : DataW.trod enc Try.prog W 0 (fun _ => true) true m 47 [a5] = some y5 := by simpa [k47] using g5
  rcases DataW.trod_slice Try.underlying47 g5' with ⟨hc, _⟩ | ⟨a, len, cap, elems, rest, n, rfl, hc, _, _, hl, hcm, hel, hi, _⟩
  · simp at hc
    subst hc
    exact ⟨.mk x0 x1 x2 x3 x4 none 0 [], rfl, .mk (.inl rfl) (Nat.le_refl _) (Nat.zero_le _) (by simp)⟩
  · simp at hc
    subst hc
    rw [k50] at hi
    have hall : ∀ i, i < len → ∃ t : Tr, W.cells? 0 (a.add (i * 6)) 6 = some t.cells ∧ TrA W (fun _ => False) t := by
      intro i hil
      have h1 := hi i hil
      rw [List.getElem?_eq_getElem (by rw [hel]; exact hil)] at h1
      cases hcs : W.cells? 0 (a.add (i * 6)) 6 with
      | none => rw [hcs] at h1; cases h1
      | some cs' =>
        rw [hcs] at h1
        obtain ⟨t, ht, hA⟩ := ih n (by omega) cs' _ h1
        exact ⟨t, by rw [ht], hA⟩
    obtain ⟨f, hf⟩ := Deep.choose_lt (p := fun i (t : Tr) => W.cells? 0 (a.add (i * 6)) 6 = some t.cells ∧ TrA W (fun _ => False) t) hall
    refine ⟨.mk x0 x1 x2 x3 x4 (some a) cap ((List.range len).map f), by simp [Tr.cells], .mk ?_ (by simpa using hl) hcm ?_⟩
    · have hrow : OldRow W (some a) (((List.range len).map f).map Tr.cells) 6 := by
        by_cases h0 : len = 0
        · subst h0; exact .inl rfl
        · right
          obtain ⟨b, off, spot⟩ := a
          have h1 := cells?_some (hf 0 (by omega)).1
          have hc0 : (f 0).cells[0]? = some ((f 0).cells[0]'(by rw [Tr.cells_len]; omega)) := List.getElem?_eq_getElem _
          have hcell := (h1.2 0 (by omega)).trans hc0
          have hspot : spot = none := by simpa [Addr.add] using World.cell?_spot hcell
          subst hspot
          have hlt := cell_lt hcell
          rw [Gx.add_plain, Gx.add_plain] at hlt
          refine ⟨b, off, rfl, hlt, fun i vs hi j v hj => ?_⟩
          rw [List.map_map, List.getElem?_map] at hi
          cases hr : (List.range len)[i]? with
          | none => rw [hr] at hi; cases hi
          | some i' =>
            rw [hr] at hi
            obtain ⟨hlt', e'⟩ := List.getElem?_eq_some_iff.1 hr
            simp only [List.length_range] at hlt'
            simp only [List.getElem_range] at e'
            subst e'
            simp only [Option.map_some, Option.some.injEq, Function.comp_apply] at hi
            subst hi
            have h2 := cells?_some (hf i (by omega)).1
            have hj' : j < 6 := by have := (List.getElem?_eq_some_iff.1 hj).1; rw [Tr.cells_len] at this; omega
            have := h2.2 j hj'
            rw [Gx.add_plain, Gx.add_plain] at this
            rw [this, hj]
      have := RdA.of hrow (fun vs hvs => by obtain ⟨t, _, rfl⟩ := List.mem_map.1 hvs; exact Tr.cells_len t)
      rwa [rowsT_flat] at this
    · intro t ht
      obtain ⟨i, hi2, rfl⟩ := List.mem_map.1 ht
      exact (hf i (by simpa using hi2)).2
/-- a list of trees that came in -/
theorem open_trees (fuel : Nat) (v : Value) (x : DataW H × List MemPlace) (h : DataW.trod enc Try.prog W 0 (fun _ => true) true fuel 47 [v] = some x) :
    ∃ (a : Option Addr) (c : Nat) (ts : List Tr), v = .slice a ts.length c ∧ ts.length ≤ c ∧ c ≤ maxLen ∧ RdA W (fun _ => False) a (rowsT ts) ∧ ∀ t ∈ ts, TrA W (fun _ => False) t := by
  have k50 : Try.prog.cellsOf 50 = 6 := by kernel_rfl
  rcases DataW.trod_slice Try.underlying47 h with ⟨hc, _⟩ | ⟨a, len, cap, elems, rest, n, rfl, hc, _, _, hl, hcm, hel, hi, _⟩
  · simp at hc
    subst hc
    exact ⟨none, 0, [], rfl, Nat.le_refl _, Nat.zero_le _, .inl rfl, by simp⟩
  · simp at hc
    subst hc
    rw [k50] at hi
    have hall : ∀ i, i < len → ∃ t : Tr, W.cells? 0 (a.add (i * 6)) 6 = some t.cells ∧ TrA W (fun _ => False) t := by
      intro i hil
      have h1 := hi i hil
      rw [List.getElem?_eq_getElem (by rw [hel]; exact hil)] at h1
      cases hcs : W.cells? 0 (a.add (i * 6)) 6 with
      | none => rw [hcs] at h1; cases h1
      | some cs' =>
        rw [hcs] at h1
        obtain ⟨t, ht, hA⟩ := open_tree n cs' _ h1
        exact ⟨t, by rw [ht], hA⟩
    obtain ⟨f, hf⟩ := Deep.choose_lt (p := fun i (t : Tr) => W.cells? 0 (a.add (i * 6)) 6 = some t.cells ∧ TrA W (fun _ => False) t) hall
    refine ⟨some a, cap, (List.range len).map f, by simp, by simpa using hl, hcm, ?_, ?_⟩
    · have hrow : OldRow W (some a) (((List.range len).map f).map Tr.cells) 6 := by
        by_cases h0 : len = 0
        · subst h0; exact .inl rfl
        · right
          obtain ⟨b, off, spot⟩ := a
          have h1 := cells?_some (hf 0 (by omega)).1
          have hc0 : (f 0).cells[0]? = some ((f 0).cells[0]'(by rw [Tr.cells_len]; omega)) := List.getElem?_eq_getElem _
          have hcell := (h1.2 0 (by omega)).trans hc0
          have hspot : spot = none := by simpa [Addr.add] using World.cell?_spot hcell
          subst hspot
          have hlt := cell_lt hcell
          rw [Gx.add_plain, Gx.add_plain] at hlt
          refine ⟨b, off, rfl, hlt, fun i vs hi j v hj => ?_⟩
          rw [List.map_map, List.getElem?_map] at hi
          cases hr : (List.range len)[i]? with
          | none => rw [hr] at hi; cases hi
          | some i' =>
            rw [hr] at hi
            obtain ⟨hlt', e'⟩ := List.getElem?_eq_some_iff.1 hr
            simp only [List.length_range] at hlt'
            simp only [List.getElem_range] at e'
            subst e'
            simp only [Option.map_some, Option.some.injEq, Function.comp_apply] at hi
            subst hi
            have h2 := cells?_some (hf i (by omega)).1
            have hj' : j < 6 := by have := (List.getElem?_eq_some_iff.1 hj).1; rw [Tr.cells_len] at this; omega
            have := h2.2 j hj'
            rw [Gx.add_plain, Gx.add_plain] at this
            rw [this, hj]
      have := RdA.of hrow (fun vs hvs => by obtain ⟨t, _, rfl⟩ := List.mem_map.1 hvs; exact Tr.cells_len t)
      rwa [rowsT_flat] at this
    · intro t ht
      obtain ⟨i, hi2, rfl⟩ := List.mem_map.1 ht
      exact (hf i (by simpa using hi2)).2
end
end Go.Proofs.Ytebecelhcpljaaa
