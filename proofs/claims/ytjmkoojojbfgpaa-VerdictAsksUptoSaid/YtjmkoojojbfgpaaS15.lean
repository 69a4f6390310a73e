/- VerdictAsks: for every size of a table and every list of letters that holds at most 1048576 values and letters: whatever a table is asked, it tells what the document's table tells, to the same one, the same stands behind each, and a copy stays as it was: the law returns true and leaves its arguments as they were. -/
import Derived.Test.YtjmkoojojbfgpaaRows
import Derived.Test.YtjmkoojojbfgpaaGxLaw
import Derived.Test.YtjmkoojojbfgpaaW23
import Derived.Test.YtjmkoojojbfgpaaBulk
import Derived.Test.YtjmkoojojbfgpaaGxOld
namespace Go.Proofs.Ytjmkoojojbfgpaa.verdictAsks
open Go.ChangeShapes Go.WideShapes Go.ChangeAt Go.RowKit Go.Gx
open Go.ChangeMaps (open_string shut_string)
set_option linter.unusedVariables false
set_option linter.unusedSimpArgs false
set_option maxRecDepth 100000

theorem own : ownKnob Try.prog.godebug = none := by kernel_rfl
theorem laidOut : laidOutB Try.prog = true := by kernel_rfl
theorem contract (H : Type) (enc : TypeId × Value → H) (W : World) (base : Nat) (args : Array Value) (ds gs : List (DataW H)) (before : List MemPlace)
    (hval : ∀ (j : Nat) t v, Try.f6.params[j]? = some t → args[j]? = some v → Value.okWide Try.prog W .any base t v)
    (hW : DataW.Whole enc Try.prog Try.f6.params.toList Rows.verdictAsksSpec.vars false W args.toList ds gs before) (hk : Rows.uptoSmall H (ds ++ gs) = true) :
    Calls Try.prog 6 args W fun e W' => ∃ v, e = .returned v ∧ Rows.verdictAsksSpec.post enc Try.prog Try.f6 false true false false W args v W' := by
  have hW' := hW
  obtain ⟨p, q, hA0, hV, rfl, hfz, hnd⟩ := hW
  have hA : DataW.TrodAll enc Try.prog W 0 (fun _ => true) true Try.f6.params.toList args.toList ds p := hA0
  rw [Try.params6] at hA hval
  obtain ⟨v0, vs0, d0, ds0, p0, q0, hargs, rfl, rfl, h0, r0⟩ := trodAll_cons hA
  obtain ⟨v1, vs1, d1, ds1, p1, q1, rfl, rfl, rfl, h1, r1⟩ := trodAll_cons r0
  obtain ⟨rfl, rfl, rfl⟩ := trodAll_nil r1
  obtain rfl : args = #[v0, v1] := by cases args; simp_all
  obtain ⟨rfl, rfl⟩ := trodVars_none hV
  obtain ⟨x0, rfl, rfl, rfl, w0⟩ := open_int Try.underlying3 (hval 0 3 v0 rfl rfl) h0
  obtain ⟨xa1, xl1, xc1, ls1, rfl, hl1, hf1, ho1, hlc1, hcm1, hd1⟩ := open_rows (sz := 5) (n := 6) (sh := [.i .i64, .i .i64, .i .u64, .s, .b]) Try.underlying22 (by kernel_rfl) (by kernel_rfl) (by omega) (hval 1 22 v1 rfl rfl) h1
  have hfl1 : ∀ vs ∈ ls1, vs.length = 5 := fun vs hvs => fits_length (hf1 vs hvs)
  obtain ⟨as1, rfl⟩ := map_of_all (f := Ver.Lt.cells) (ls := ls1) (fun vs hvs => by
    obtain ⟨y1, _, rfl, _, y2, _, rfl, _, y3, _, rfl, _, y4, _, rfl, _, y5, _, rfl, rfl⟩ := hf1 vs hvs
    exact ⟨⟨y1, y2, y3, y4, y5⟩, rfl⟩)
  rw [List.length_map] at hl1
  subst hl1
  have hr1 := RdA.of ho1 hfl1
  rw [Ver.lts_flat] at hr1
  refine (Asks_spec (R := []) (Hp.start W) x0 as1 hr1).mono fun e W' ⟨he, _, hh⟩ => ?_
  subst he
  exact ⟨_, rfl, law_post laidOut (by kernel_rfl) rfl rfl Try.underlying4 (fun ds h => by rw [Try.params6] at h; match ds, h with | [_, _], _ => rfl) hW' (Hp.below hh)⟩

theorem lifted (os : Os) (started : os.Started) (H : Type) (enc : TypeId × Value → H) (F : Stop.Interp) :
    ReturnsInHanded {} Try.checked os 6 .any ((Rows.OpenSpec.upto Rows.verdictAsksSpec).pre6 enc Try.prog Try.f6 Rows.verdictAsksUptoRow.domain false) (((Rows.OpenSpec.upto Rows.verdictAsksSpec).at F).post enc Try.prog Try.f6 false true false false) := by
  refine returnsInHanded_of_cond (C := Try.checked) (s := Rows.OpenSpec.upto Rows.verdictAsksSpec) (k := Rows.uptoSmall) rfl own started (by kernel_rfl) Try.func6
    (OpenSpec.witness (enc := enc) (C := Try.checked) (s := Rows.OpenSpec.upto Rows.verdictAsksSpec) (k := Rows.uptoSmall) rfl false ⟨#[], #[.int .i64 0, .slice none 0 0], []⟩ 8 (by kernel_rfl) (by kernel_rfl) (by kernel_rfl)
      (x := ([.lit (.int .i64 0), .nil], [], [])) (by kernel_rfl) rfl (by kernel_rfl)) ?_
  intro W base args ds gs before hval hW _ hk _
  exact contract H enc W base args ds gs before hval hW hk
theorem over : Rows.verdictAsksUptoRow.holds Try.pinned (Rows.OpenSpec.upto Rows.verdictAsksSpec) :=
  OpenClaim.holds_of_cond 6 Try.f6 rfl rfl rfl rfl rfl rfl rfl ⟨rfl, rfl, rfl, rfl, rfl⟩ rfl rfl rfl rfl rfl (by kernel_rfl) Try.func6 (by kernel_rfl)
    (of_decide_eq_true (by kernel_rfl)) (by unfold Func.isWrapper; first | (rw [if_pos (by decide +kernel)]; kernel_rfl) | (rw [if_neg (by decide +kernel)]; exact ⟨rfl, rfl⟩))
    (fun os started H enc _ F => lifted os started H enc F)
end Go.Proofs.Ytjmkoojojbfgpaa.verdictAsks
namespace Go.Proofs.Ytjmkoojojbfgpaa
theorem verdictAsks_holds : Rows.VerdictAsksUptoSaid := verdictAsks.over
end Go.Proofs.Ytjmkoojojbfgpaa
