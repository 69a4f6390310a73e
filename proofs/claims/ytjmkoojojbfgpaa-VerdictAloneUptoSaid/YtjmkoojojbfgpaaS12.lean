/- VerdictAlone: for every list of letters that holds at most 1048576 values and letters, and every number of a contract: what a table tells for that number is what a table tells that was asked for that number alone: the law returns true and leaves its arguments as they were. -/
import Derived.Test.YtjmkoojojbfgpaaRows
import Derived.Test.YtjmkoojojbfgpaaGxLaw
import Derived.Test.YtjmkoojojbfgpaaW12
import Derived.Test.YtjmkoojojbfgpaaBulk
import Derived.Test.YtjmkoojojbfgpaaGxOld
namespace Go.Proofs.Ytjmkoojojbfgpaa.verdictAlone
open Go.ChangeShapes Go.WideShapes Go.ChangeAt Go.RowKit Go.Gx
open Go.ChangeMaps (open_string shut_string)
set_option linter.unusedVariables false
set_option linter.unusedSimpArgs false
set_option maxRecDepth 100000

theorem own : ownKnob Try.prog.godebug = none := by kernel_rfl
theorem laidOut : laidOutB Try.prog = true := by kernel_rfl
theorem contract (H : Type) (enc : TypeId × Value → H) (W : World) (base : Nat) (args : Array Value) (ds gs : List (DataW H)) (before : List MemPlace)
    (hval : ∀ (j : Nat) t v, Try.f3.params[j]? = some t → args[j]? = some v → Value.okWide Try.prog W .any base t v)
    (hW : DataW.Whole enc Try.prog Try.f3.params.toList Rows.verdictAloneSpec.vars false W args.toList ds gs before) (hk : Rows.uptoSmall H (ds ++ gs) = true) :
    Calls Try.prog 3 args W fun e W' => ∃ v, e = .returned v ∧ Rows.verdictAloneSpec.post enc Try.prog Try.f3 false true false false W args v W' := by
  have hW' := hW
  obtain ⟨p, q, hA0, hV, rfl, hfz, hnd⟩ := hW
  have hA : DataW.TrodAll enc Try.prog W 0 (fun _ => true) true Try.f3.params.toList args.toList ds p := hA0
  rw [Try.params3] at hA hval
  obtain ⟨v0, vs0, d0, ds0, p0, q0, hargs, rfl, rfl, h0, r0⟩ := trodAll_cons hA
  obtain ⟨v1, vs1, d1, ds1, p1, q1, rfl, rfl, rfl, h1, r1⟩ := trodAll_cons r0
  obtain ⟨rfl, rfl, rfl⟩ := trodAll_nil r1
  obtain rfl : args = #[v0, v1] := by cases args; simp_all
  obtain ⟨rfl, rfl⟩ := trodVars_none hV
  obtain ⟨xa0, xl0, xc0, ls0, rfl, hl0, hf0, ho0, hlc0, hcm0, hd0⟩ := open_rows (sz := 5) (n := 6) (sh := [.i .i64, .i .i64, .i .u64, .s, .b]) Try.underlying22 (by kernel_rfl) (by kernel_rfl) (by omega) (hval 0 22 v0 rfl rfl) h0
  have hfl0 : ∀ vs ∈ ls0, vs.length = 5 := fun vs hvs => fits_length (hf0 vs hvs)
  obtain ⟨as0, rfl⟩ := map_of_all (f := Ver.Lt.cells) (ls := ls0) (fun vs hvs => by
    obtain ⟨y1, _, rfl, _, y2, _, rfl, _, y3, _, rfl, _, y4, _, rfl, _, y5, _, rfl, rfl⟩ := hf0 vs hvs
    exact ⟨⟨y1, y2, y3, y4, y5⟩, rfl⟩)
  rw [List.length_map] at hl0
  subst hl0
  have hr0 := RdA.of ho0 hfl0
  rw [Ver.lts_flat] at hr0
  obtain ⟨x1, rfl, rfl, rfl, w1⟩ := open_int Try.underlying23 (hval 1 23 v1 rfl rfl) h1
  refine (Alone_spec (R := []) (Hp.start W) as0 hr0 x1).mono fun e W' ⟨he, _, hh⟩ => ?_
  subst he
  exact ⟨_, rfl, law_post laidOut (by kernel_rfl) rfl rfl Try.underlying4 (fun ds h => by rw [Try.params3] at h; match ds, h with | [_, _], _ => rfl) hW' (Hp.below hh)⟩

theorem lifted (os : Os) (started : os.Started) (H : Type) (enc : TypeId × Value → H) (F : Stop.Interp) :
    ReturnsInHanded {} Try.checked os 3 .any ((Rows.OpenSpec.upto Rows.verdictAloneSpec).pre6 enc Try.prog Try.f3 Rows.verdictAloneUptoRow.domain false) (((Rows.OpenSpec.upto Rows.verdictAloneSpec).at F).post enc Try.prog Try.f3 false true false false) := by
  refine returnsInHanded_of_cond (C := Try.checked) (s := Rows.OpenSpec.upto Rows.verdictAloneSpec) (k := Rows.uptoSmall) rfl own started (by kernel_rfl) Try.func3
    (OpenSpec.witness (enc := enc) (C := Try.checked) (s := Rows.OpenSpec.upto Rows.verdictAloneSpec) (k := Rows.uptoSmall) rfl false ⟨#[], #[.slice none 0 0, .int .u64 0], []⟩ 8 (by kernel_rfl) (by kernel_rfl) (by kernel_rfl)
      (x := ([.nil, .lit (.int .u64 0)], [], [])) (by kernel_rfl) rfl (by kernel_rfl)) ?_
  intro W base args ds gs before hval hW _ hk _
  exact contract H enc W base args ds gs before hval hW hk
theorem over : Rows.verdictAloneUptoRow.holds Try.pinned (Rows.OpenSpec.upto Rows.verdictAloneSpec) :=
  OpenClaim.holds_of_cond 3 Try.f3 rfl rfl rfl rfl rfl rfl rfl ⟨rfl, rfl, rfl, rfl, rfl⟩ rfl rfl rfl rfl rfl (by kernel_rfl) Try.func3 (by kernel_rfl)
    (of_decide_eq_true (by kernel_rfl)) (by unfold Func.isWrapper; first | (rw [if_pos (by decide +kernel)]; kernel_rfl) | (rw [if_neg (by decide +kernel)]; exact ⟨rfl, rfl⟩))
    (fun os started H enc _ F => lifted os started H enc F)
end Go.Proofs.Ytjmkoojojbfgpaa.verdictAlone
namespace Go.Proofs.Ytjmkoojojbfgpaa
theorem verdictAlone_holds : Rows.VerdictAloneUptoSaid := verdictAlone.over
end Go.Proofs.Ytjmkoojojbfgpaa
