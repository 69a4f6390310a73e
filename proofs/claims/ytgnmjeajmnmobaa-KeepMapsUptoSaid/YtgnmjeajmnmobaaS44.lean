/- KeepMaps: for every list of acts, each on any map on the way, what a map tells of a key and a number is what a plain list tells, and every map on the way still holds its list at the end: the law returns true and leaves its arguments as they were. Condition: what it reads is of bulk at most 1048576. -/
import Derived.Test.YtgnmjeajmnmobaaRows
import Derived.Test.YtgnmjeajmnmobaaGxLaw
import Derived.Test.YtgnmjeajmnmobaaW44
import Derived.Test.YtgnmjeajmnmobaaOpn4
import Derived.Test.YtgnmjeajmnmobaaBulk
namespace Go.Proofs.Ytgnmjeajmnmobaa.keepMaps
open Go.ChangeShapes Go.WideShapes Go.ChangeAt Go.RowKit Go.Gx
open Go.ChangeMaps (open_string shut_string)
set_option linter.unusedVariables false
set_option linter.unusedSimpArgs false
set_option maxRecDepth 100000

theorem own : ownKnob Try.prog.godebug = none := by kernel_rfl
theorem laidOut : laidOutB Try.prog = true := by kernel_rfl
theorem contract (H : Type) (enc : TypeId × Value → H) (W : World) (base : Nat) (args : Array Value) (ds gs : List (DataW H)) (before : List MemPlace)
    (hval : ∀ (j : Nat) t v, Try.f9.params[j]? = some t → args[j]? = some v → Value.okWide Try.prog W .any base t v)
    (hW : DataW.Whole enc Try.prog Try.f9.params.toList Rows.keepMapsSpec.vars false W args.toList ds gs before) (hk : Rows.uptoSmall H (ds ++ gs) = true) :
    Calls Try.prog 9 args W fun e W' => ∃ v, e = .returned v ∧ Rows.keepMapsSpec.post enc Try.prog Try.f9 false true false false W args v W' := by
  have hW' := hW
  obtain ⟨p, q, hA0, hV, rfl, hfz, hnd⟩ := hW
  have hA : DataW.TrodAll enc Try.prog W 0 (fun _ => true) true Try.f9.params.toList args.toList ds p := hA0
  rw [Try.params9] at hA hval
  obtain ⟨v0, vs0, d0, ds0, p0, q0, hargs, rfl, rfl, h0, r0⟩ := trodAll_cons hA
  obtain ⟨rfl, rfl, rfl⟩ := trodAll_nil r0
  obtain rfl : args = #[v0] := by cases args; simp_all
  obtain ⟨rfl, rfl⟩ := trodVars_none hV
  obtain ⟨xa0, xl0, xc0, ls0, rfl, hl0, hf0, ho0, hlc0, hcm0, hd0⟩ := open_rows (sz := 3) (n := 6) (sh := [.i .i64, .s, .i .i64]) Try.underlying36 (by kernel_rfl) (by kernel_rfl) (by omega) (hval 0 36 v0 rfl rfl) h0
  obtain ⟨el0, rfl⟩ := map_of_all (f := fun x : AcT => [Value.int .i64 x.1, .string x.2.1, .int .i64 x.2.2]) (ls := ls0) (fun vs hvs => by
    obtain ⟨y1, _, rfl, hw1, y2, _, rfl, hw2, y3, _, rfl, hw3, rfl⟩ := hf0 vs hvs
    exact ⟨(y1, y2, y3), rfl⟩)
  rw [List.length_map] at hl0
  have hkk0 := kinds_of hf0
  refine (Maps_spec (Hp.start W) (rd_acts ho0 []) hl0 (bulk_rows (by simp) hk hd0) hkk0).mono fun e W' ⟨he, _, hh⟩ => ?_
  subst he
  exact ⟨_, rfl, law_post laidOut (by kernel_rfl) rfl rfl Try.underlying4 (fun ds h => by rw [Try.params9] at h; match ds, h with | [_], _ => rfl) hW' (Hp.below hh)⟩

theorem lifted (os : Os) (started : os.Started) (H : Type) (enc : TypeId × Value → H) (F : Stop.Interp) :
    ReturnsInHanded {} Try.checked os 9 .any ((Rows.OpenSpec.upto Rows.keepMapsSpec).pre6 enc Try.prog Try.f9 Rows.keepMapsUptoRow.domain false) (((Rows.OpenSpec.upto Rows.keepMapsSpec).at F).post enc Try.prog Try.f9 false true false false) := by
  refine returnsInHanded_of_cond (C := Try.checked) (s := Rows.OpenSpec.upto Rows.keepMapsSpec) (k := Rows.uptoSmall) rfl own started (by kernel_rfl) Try.func9
    (OpenSpec.witness (enc := enc) (C := Try.checked) (s := Rows.OpenSpec.upto Rows.keepMapsSpec) (k := Rows.uptoSmall) rfl false ⟨#[], #[.slice none 0 0], []⟩ 8 (by kernel_rfl) (by kernel_rfl) (by kernel_rfl)
      (x := ([.nil], [], [])) (by kernel_rfl) rfl (by kernel_rfl)) ?_
  intro W base args ds gs before hval hW _ hk _
  exact contract H enc W base args ds gs before hval hW hk
theorem over : Rows.keepMapsUptoRow.holds Try.pinned (Rows.OpenSpec.upto Rows.keepMapsSpec) :=
  OpenClaim.holds_of_cond 9 Try.f9 rfl rfl rfl rfl rfl rfl rfl ⟨rfl, rfl, rfl, rfl, rfl⟩ rfl rfl rfl rfl rfl (by kernel_rfl) Try.func9 (by kernel_rfl)
    (of_decide_eq_true (by kernel_rfl)) (by unfold Func.isWrapper; first | (rw [if_pos (by decide +kernel)]; kernel_rfl) | (rw [if_neg (by decide +kernel)]; exact ⟨rfl, rfl⟩))
    (fun os started H enc _ F => lifted os started H enc F)
end Go.Proofs.Ytgnmjeajmnmobaa.keepMaps
namespace Go.Proofs.Ytgnmjeajmnmobaa
theorem keepMaps_holds : Rows.KeepMapsUptoSaid := keepMaps.over
end Go.Proofs.Ytgnmjeajmnmobaa
