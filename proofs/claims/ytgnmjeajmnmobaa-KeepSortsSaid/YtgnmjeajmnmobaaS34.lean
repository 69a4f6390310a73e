/- KeepSorts: for every list of numbers, what is pushed into a heap is popped in order, and of equal keys the one pushed first comes first: the law returns true and leaves its arguments as they were. No condition. -/
import Derived.Test.YtgnmjeajmnmobaaRows
import Derived.Test.YtgnmjeajmnmobaaGxLaw
import Derived.Test.YtgnmjeajmnmobaaQ34
import Derived.Test.YtgnmjeajmnmobaaOpn3
namespace Go.Proofs.Ytgnmjeajmnmobaa.keepSorts
open Go.ChangeShapes Go.WideShapes Go.ChangeAt Go.RowKit Go.Gx
open Go.ChangeMaps (open_string shut_string)
set_option linter.unusedVariables false
set_option linter.unusedSimpArgs false
set_option maxRecDepth 100000

theorem own : ownKnob Try.prog.godebug = none := by kernel_rfl
theorem laidOut : laidOutB Try.prog = true := by kernel_rfl
theorem contract (H : Type) (enc : TypeId × Value → H) (W : World) (base : Nat) (args : Array Value) (ds gs : List (DataW H)) (before : List MemPlace)
    (hval : ∀ (j : Nat) t v, Try.f8.params[j]? = some t → args[j]? = some v → Value.okWide Try.prog W .any base t v)
    (hW : DataW.Whole enc Try.prog Try.f8.params.toList Rows.keepSortsSpec.vars false W args.toList ds gs before)  :
    Calls Try.prog 8 args W fun e W' => ∃ v, e = .returned v ∧ Rows.keepSortsSpec.post enc Try.prog Try.f8 false true false false W args v W' := by
  have hW' := hW
  obtain ⟨p, q, hA0, hV, rfl, hfz, hnd⟩ := hW
  have hA : DataW.TrodAll enc Try.prog W 0 (fun _ => true) true Try.f8.params.toList args.toList ds p := hA0
  rw [Try.params8] at hA hval
  obtain ⟨v0, vs0, d0, ds0, p0, q0, hargs, rfl, rfl, h0, r0⟩ := trodAll_cons hA
  obtain ⟨rfl, rfl, rfl⟩ := trodAll_nil r0
  obtain rfl : args = #[v0] := by cases args; simp_all
  obtain ⟨rfl, rfl⟩ := trodVars_none hV
  obtain ⟨xa0, xl0, xc0, ls0, rfl, hl0, hf0, ho0, hlc0, hcm0, hd0⟩ := open_rows (sz := 1) (n := 6) (sh := [.i .i64]) Try.underlying47 (by kernel_rfl) (by kernel_rfl) (by omega) (hval 0 47 v0 rfl rfl) h0
  obtain ⟨el0, rfl⟩ := map_of_all (f := fun x : Int => [Value.int .i64 x]) (ls := ls0) (fun vs hvs => by
    obtain ⟨y1, _, rfl, hw1, rfl⟩ := hf0 vs hvs
    exact ⟨y1, rfl⟩)
  rw [List.length_map] at hl0
  refine (Sorts_spec (Hp.start W) (rd_ints ho0 []) hl0).mono fun e W' ⟨he, _, hh⟩ => ?_
  subst he
  exact ⟨_, rfl, law_post laidOut (by kernel_rfl) rfl rfl Try.underlying4 (fun ds h => by rw [Try.params8] at h; match ds, h with | [_], _ => rfl) hW' (Hp.below hh)⟩

theorem lifted (os : Os) (started : os.Started) (H : Type) (enc : TypeId × Value → H) :
    ReturnsInHanded {} Try.checked os 8 .any (Rows.keepSortsSpec.pre6 enc Try.prog Try.f8 Rows.keepSortsRow.domain false) (Rows.keepSortsSpec.post enc Try.prog Try.f8 false true false false) := by
  refine returnsInHanded_of_change (C := Try.checked) own started (by kernel_rfl) Try.func8
    (ChangeSpec.witness6 (enc := enc) (C := Try.checked) false ⟨#[], #[.slice none 0 0], []⟩ 8 (by kernel_rfl) (by kernel_rfl) (by kernel_rfl) (by kernel_rfl)) ?_
  intro W base args ds gs before hval hW _ _
  exact contract H enc W base args ds gs before hval hW
theorem over : Rows.keepSortsRow.holds Try.pinned (OpenSpec.ofChange Rows.keepSortsSpec) :=
  OpenClaim.holds_of_wide 8 Try.f8 rfl rfl rfl rfl rfl rfl rfl ⟨rfl, rfl, rfl, rfl, rfl⟩ rfl rfl rfl rfl rfl (by kernel_rfl) Try.func8 (by kernel_rfl)
    (of_decide_eq_true (by kernel_rfl)) (by unfold Func.isWrapper; first | (rw [if_pos (by decide +kernel)]; kernel_rfl) | (rw [if_neg (by decide +kernel)]; exact ⟨rfl, rfl⟩))
    (fun os started H enc _ => lifted os started H enc)
end Go.Proofs.Ytgnmjeajmnmobaa.keepSorts
namespace Go.Proofs.Ytgnmjeajmnmobaa
theorem keepSorts_holds : Rows.KeepSortsSaid := keepSorts.over
end Go.Proofs.Ytgnmjeajmnmobaa
