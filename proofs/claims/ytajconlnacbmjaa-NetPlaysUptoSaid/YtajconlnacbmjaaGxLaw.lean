/-
  The frame of a law's statement: what an argument of plain cells reads as; the statement's ending out of 'nothing that was there has turned'. Generic: no program in sight.
-/
import Derived.WalkKit
import Derived.ProofKit
import Derived.OpenShut
import Derived.ShutString
import Derived.ChangeOld
import Derived.Below
import Derived.JoinedCond
import Derived.Deep.Slices
import Derived.Test.YtajconlnacbmjaaGxHeap
set_option linter.unusedVariables false
set_option linter.unusedSimpArgs false
namespace Go.Gx
open Go.ChangeShapes Go.WideShapes Go.ChangeAt Go.RowKit

theorem Hp.below {w0 w : World} {L : List Ent} (H : Hp w0 (fun _ => False) L w) : Below w0.heap.size w0 w :=
  ⟨H.os, H.tape, H.output, H.size, fun b hb => H.frame b hb (fun h => h)⟩

inductive Sh where
  | b
  | i (k : IntKind)
  | s
/-- the cells of a type that holds nothing but bools, integers and strings -/
def shapes (P : Program) : Nat → TypeId → Option (List Sh)
  | 0, _ => none
  | n + 1, t => match P.underlying t with
    | some .bool => some [.b]
    | some (.int k) => some [.i k]
    | some .string => some [.s]
    | some (.struct fs) => (fs.toList.foldl (fun (acc : Option (List Sh)) f => acc.bind fun acc => if f.offset = acc.length then (shapes P n f.type).bind fun s => if s.length = P.cellsOf f.type then some (acc ++ s) else none else none) (some [])).bind fun s => if s.length = P.cellsOf t then some s else none
    | _ => none
def Fits : List Sh → List Value → Prop
  | [], cs => cs = []
  | .b :: r, cs => ∃ x cs', cs = .bool x :: cs' ∧ Fits r cs'
  | .i k :: r, cs => ∃ n cs', cs = .int k n :: cs' ∧ (Lit.int k n).wf = true ∧ Fits r cs'
  | .s :: r, cs => ∃ x cs', cs = .string x :: cs' ∧ x.size ≤ maxLen ∧ Fits r cs'
theorem Fits.append : ∀ {a b : List Sh} {xs ys : List Value}, Fits a xs → Fits b ys → Fits (a ++ b) (xs ++ ys)
  | [], b, xs, ys, h, k => by simp only [Fits] at h; subst h; exact k
  | .b :: r, b, xs, ys, h, k => by obtain ⟨x, cs, rfl, h⟩ := h; exact ⟨x, _, rfl, Fits.append h k⟩
  | .i q :: r, b, xs, ys, h, k => by obtain ⟨x, cs, rfl, w, h⟩ := h; exact ⟨x, _, rfl, w, Fits.append h k⟩
  | .s :: r, b, xs, ys, h, k => by obtain ⟨x, cs, rfl, w, h⟩ := h; exact ⟨x, _, rfl, w, Fits.append h k⟩

section
variable {H : Type} {enc : TypeId × Value → H} {P : Program} {w : World} {base : Nat} {spare : Nat → Bool} {held : Bool}
theorem fits_fields {n m : Nat} {cs : List Value} (ih : ∀ (t : TypeId) (sh : List Sh), shapes P n t = some sh → ∀ (fuel : Nat) (cs : List Value) (x : DataW H × List MemPlace), DataW.trod enc P w base spare held fuel t cs = some x → Fits sh cs) :
    ∀ (fl : List Field) (acc s : List Sh) (xs : List (DataW H × List MemPlace)),
      fl.foldl (fun (acc : Option (List Sh)) f => acc.bind fun acc => if f.offset = acc.length then (shapes P n f.type).bind fun s => if s.length = P.cellsOf f.type then some (acc ++ s) else none else none) (some acc) = some s →
      fl.mapM (fun f => DataW.trod enc P w base spare held m f.type ((cs.drop f.offset).take (P.cellsOf f.type))) = some xs →
      Fits acc (cs.take acc.length) → Fits s (cs.take s.length)
  | [], acc, s, xs, hf, _, ha => by simp only [List.foldl_nil, Option.some.injEq] at hf; subst hf; exact ha
  | f :: fl, acc, s, xs, hf, hm, ha => by
    have none_fold : ∀ fl : List Field, fl.foldl (fun (acc : Option (List Sh)) f => acc.bind fun acc => if f.offset = acc.length then (shapes P n f.type).bind fun s => if s.length = P.cellsOf f.type then some (acc ++ s) else none else none) none = none := by
      intro fl; induction fl with
      | nil => rfl
      | cons f fl ihf => simpa using ihf
    rw [List.foldl_cons] at hf
    simp only [Option.bind_some] at hf
    by_cases ho : f.offset = acc.length
    · rw [if_pos ho] at hf
      cases hs : shapes P n f.type with
      | none => rw [hs] at hf; simp only [Option.bind_none] at hf; rw [none_fold] at hf; cases hf
      | some sf =>
        rw [hs] at hf
        simp only [Option.bind_some] at hf
        by_cases hl : sf.length = P.cellsOf f.type
        · rw [if_pos hl] at hf
          rw [List.mapM_cons] at hm
          cases ht : DataW.trod enc P w base spare held m f.type ((cs.drop f.offset).take (P.cellsOf f.type)) with
          | none => rw [ht] at hm; cases hm
          | some x =>
            rw [ht] at hm
            cases hr : fl.mapM (fun f => DataW.trod enc P w base spare held m f.type ((cs.drop f.offset).take (P.cellsOf f.type))) with
            | none => simp only [hr] at hm; cases hm
            | some ys =>
              refine fits_fields ih fl (acc ++ sf) s ys hf hr ?_
              have h1 := ih _ _ hs _ _ _ ht
              have h2 := Fits.append ha h1
              rw [ho, ← hl] at h2
              rw [List.length_append, List.take_add]
              exact h2
        · rw [if_neg hl, none_fold] at hf; cases hf
    · rw [if_neg ho, none_fold] at hf; cases hf
theorem fits_of_trod : ∀ (n : Nat) (t : TypeId) (sh : List Sh), shapes P n t = some sh → ∀ (fuel : Nat) (cs : List Value) (x : DataW H × List MemPlace), DataW.trod enc P w base spare held fuel t cs = some x → Fits sh cs
  | 0, t, sh, h, _, _, _, _ => by cases h
  | n + 1, t, sh, h, 0, _, _, ht => by cases ht
  | n + 1, t, sh, h, m + 1, cs, x, ht => by
    unfold shapes at h
    unfold DataW.trod at ht
    split at h
    · rename_i hu; simp only [Option.some.injEq] at h; subst h
      rw [hu] at ht
      split at ht <;> simp_all [Fits]
    · rename_i k hu; simp only [Option.some.injEq] at h; subst h
      rw [hu] at ht
      split at ht <;> simp_all [Fits]
    · rename_i hu; simp only [Option.some.injEq] at h; subst h
      rw [hu] at ht
      split at ht <;> simp_all [Fits]
    · rename_i fs hu
      rw [hu] at ht
      cases hfold : fs.toList.foldl (fun (acc : Option (List Sh)) f => acc.bind fun acc => if f.offset = acc.length then (shapes P n f.type).bind fun s => if s.length = P.cellsOf f.type then some (acc ++ s) else none else none) (some []) with
      | none => rw [hfold] at h; cases h
      | some s =>
        rw [hfold] at h
        simp only [Option.bind_some] at h
        by_cases hl : s.length = P.cellsOf t
        · rw [if_pos hl] at h
          simp only [Option.some.injEq] at h; subst h
          simp only at ht
          by_cases hc : cs.length = P.cellsOf t
          · rw [if_pos hc] at ht
            cases hm : fs.toList.mapM (fun f => DataW.trod enc P w base spare held m f.type ((cs.drop f.offset).take (P.cellsOf f.type))) with
            | none => rw [hm] at ht; cases ht
            | some xs =>
              have := fits_fields (fits_of_trod n) fs.toList [] s xs hfold hm (by simp [Fits])
              rwa [hl, ← hc, List.take_length] at this
          · rw [if_neg hc] at ht; cases ht
        · rw [if_neg hl] at h; cases h
    · cases h

/-- a struct of plain cells that came in by value -/
theorem open_plain {n : Nat} {t : TypeId} {sh : List Sh} {r : Reach} {b0 : Nat} {W : World} {v : Value} {d : DataW H} {p : List MemPlace} {fs : Array Field} (hu : P.underlying t = some (.struct fs)) (hs : shapes P n t = some sh)
    (hv : Value.okWide P W r b0 t v) (h : DataW.Trod enc P W base spare held t v d p) : ∃ cs : List Value, v = .agg cs.toArray ∧ Fits sh cs := by
  obtain ⟨cs, rfl, _⟩ := okWide_struct hu hv
  obtain ⟨fuel, hf⟩ := h
  exact ⟨cs.toList, by simp, fits_of_trod n t sh hs _ _ _ (by simpa [Value.cells] using hf)⟩

theorem trodAll_length {ts : List TypeId} : ∀ {vs : List Value} {ds : List (DataW H)} {ps : List MemPlace}, DataW.TrodAll enc P w base spare held ts vs ds ps → ds.length = ts.length := by
  induction ts with
  | nil => intro vs ds ps h; cases vs <;> cases ds <;> simp_all [DataW.TrodAll]
  | cons t ts ih =>
    intro vs ds ps h
    cases vs with
    | nil => simp [DataW.TrodAll] at h
    | cons v vs => cases ds with
      | nil => simp [DataW.TrodAll] at h
      | cons d ds => obtain ⟨p, q, _, h, _⟩ := h; simp [ih h]

theorem trodAll_below {W W' : World} (hl : laidOutB P = true) (bel : Below W.heap.size W W') : ∀ {ts : List TypeId}, ts.all (fun t => P.readableRec t && decide (t < P.types.size)) = true → ∀ {vs : List Value} {ds : List (DataW H)} {ps : List MemPlace},
    DataW.TrodAll enc P W 0 (fun _ => true) true ts vs ds ps → DataW.TrodAll enc P W' 0 (fun b => decide (b < W.heap.size)) true ts vs ds ps := by
  intro ts
  induction ts with
  | nil => intro _ vs ds ps h; cases vs <;> cases ds <;> simp_all [DataW.TrodAll]
  | cons t ts ih =>
    intro ht vs ds ps h
    simp only [List.all_cons, Bool.and_eq_true, decide_eq_true_eq] at ht
    cases vs with
    | nil => simp [DataW.TrodAll] at h
    | cons v vs => cases ds with
      | nil => simp [DataW.TrodAll] at h
      | cons d ds =>
        obtain ⟨p, q, h0, h1, rfl⟩ := h
        have lt0 : ∀ x ∈ p, x.block < W.heap.size := by obtain ⟨m, hm⟩ := h0; exact DataW.trod_lt m _ _ _ hm
        exact ⟨p, q, Below.trod hl ht.1.1 ht.1.2 h0 bel lt0, ih ht.2 h1, rfl⟩

theorem law_post {f : Func} {s : ChangeSpec} {apart fresh handsOn : Bool} {W W' : World} {args : Array Value} {ds gs : List (DataW H)} {before : List MemPlace} {tb : TypeId}
    (hl : laidOutB P = true) (hr : f.params.toList.all (fun t => P.readableRec t && decide (t < P.types.size)) = true) (hv : s.vars = []) (hres : f.resultTypes = #[tb]) (htb : P.underlying tb = some .bool)
    (hfn : ∀ ds : List (DataW H), ds.length = f.params.toList.length → s.fn H ds = ⟨[.lit (.bool true)], ds, []⟩)
    (hW : DataW.Whole enc P f.params.toList s.vars apart W args.toList ds gs before) (bel : Below W.heap.size W W') : s.post enc P f apart fresh handsOn false W args (.bool true) W' := by
  have hW' := hW
  obtain ⟨p, q, hA, hV, rfl, hfz, hnd⟩ := hW
  rw [hv] at hV
  obtain ⟨rfl, rfl⟩ := trodVars_none hV
  have e := hfn ds (trodAll_length hA)
  refine ⟨ds, [], _, [], p, [], hW', ?_, ?_, ?_, bel.frame _, fun h => by cases h⟩
  · rw [List.append_nil, e, hres]
    exact trodAll_mk1 (shut_bool htb _)
  · rw [List.append_nil, e]
    exact trodAll_below hl bel hr hA
  · rw [List.append_nil, e, hv]
    rfl
end
end Go.Gx
