/- DiskEach: for every two images and every number that hold at most 1048576 values and letters: going over the blocks that are not empty tells each of them once, in order, left early or not, as they were at the call; and two disks are the same just if their blocks are: the law returns true and leaves its arguments as they were. -/
import Derived.Test.YtfcmjddpoacenaaRows
import Derived.Test.YtfcmjddpoacenaaGxLaw
import Derived.Test.YtfcmjddpoacenaaW33
import Derived.Test.YtfcmjddpoacenaaBulk
import Derived.Test.YtfcmjddpoacenaaGxOld
namespace Go.Proofs.Ytfcmjddpoacenaa.diskEach
open Go.ChangeShapes Go.WideShapes Go.ChangeAt Go.RowKit Go.Gx
open Go.ChangeMaps (open_string shut_string)
set_option linter.unusedVariables false
set_option linter.unusedSimpArgs false
set_option maxRecDepth 100000

theorem own : ownKnob Try.prog.godebug = none := by kernel_rfl
theorem laidOut : laidOutB Try.prog = true := by kernel_rfl
theorem contract (H : Type) (enc : TypeId × Value → H) (W : World) (base : Nat) (args : Array Value) (ds gs : List (DataW H)) (before : List MemPlace)
    (hval : ∀ (j : Nat) t v, Try.f7.params[j]? = some t → args[j]? = some v → Value.okWide Try.prog W .any base t v)
    (hW : DataW.Whole enc Try.prog Try.f7.params.toList Rows.diskEachSpec.vars false W args.toList ds gs before) (hk : Rows.uptoSmall H (ds ++ gs) = true) :
    Calls Try.prog 7 args W fun e W' => ∃ v, e = .returned v ∧ Rows.diskEachSpec.post enc Try.prog Try.f7 false true false false W args v W' := by
  have hW' := hW
  obtain ⟨p, q, hA0, hV, rfl, hfz, hnd⟩ := hW
  have hA : DataW.TrodAll enc Try.prog W 0 (fun _ => true) true Try.f7.params.toList args.toList ds p := hA0
  rw [Try.params7] at hA hval
  obtain ⟨v0, vs0, d0, ds0, p0, q0, hargs, rfl, rfl, h0, r0⟩ := trodAll_cons hA
  obtain ⟨v1, vs1, d1, ds1, p1, q1, rfl, rfl, rfl, h1, r1⟩ := trodAll_cons r0
  obtain ⟨v2, vs2, d2, ds2, p2, q2, rfl, rfl, rfl, h2, r2⟩ := trodAll_cons r1
  obtain ⟨rfl, rfl, rfl⟩ := trodAll_nil r2
  obtain rfl : args = #[v0, v1, v2] := by cases args; simp_all
  obtain ⟨rfl, rfl⟩ := trodVars_none hV
  obtain ⟨xa0, xl0, xc0, ls0, rfl, hl0, hf0, ho0, hlc0, hcm0, hd0⟩ := open_rows (sz := 1) (n := 6) (sh := [.s]) Try.underlying33 (by kernel_rfl) (by kernel_rfl) (by omega) (hval 0 33 v0 rfl rfl) h0
  have hfl0 : ∀ vs ∈ ls0, vs.length = 1 := fun vs hvs => fits_length (hf0 vs hvs)
  obtain ⟨as0, rfl⟩ := map_of_all (f := (fun s : ByteArray => [Value.string s])) (ls := ls0) (fun vs hvs => by
    obtain ⟨y1, _, rfl, _, rfl⟩ := hf0 vs hvs
    exact ⟨y1, rfl⟩)
  rw [List.length_map] at hl0
  subst hl0
  have hr0 := RdA.of ho0 hfl0
  rw [Dsk.strs_flat] at hr0
  obtain ⟨xa1, xl1, xc1, ls1, rfl, hl1, hf1, ho1, hlc1, hcm1, hd1⟩ := open_rows (sz := 1) (n := 6) (sh := [.s]) Try.underlying33 (by kernel_rfl) (by kernel_rfl) (by omega) (hval 1 33 v1 rfl rfl) h1
  have hfl1 : ∀ vs ∈ ls1, vs.length = 1 := fun vs hvs => fits_length (hf1 vs hvs)
  obtain ⟨as1, rfl⟩ := map_of_all (f := (fun s : ByteArray => [Value.string s])) (ls := ls1) (fun vs hvs => by
    obtain ⟨y1, _, rfl, _, rfl⟩ := hf1 vs hvs
    exact ⟨y1, rfl⟩)
  rw [List.length_map] at hl1
  subst hl1
  have hr1 := RdA.of ho1 hfl1
  rw [Dsk.strs_flat] at hr1
  obtain ⟨x2, rfl, rfl, rfl, w2⟩ := open_int Try.underlying3 (hval 2 3 v2 rfl rfl) h2
  refine (EachLaw_spec (R := []) (Hp.start W) as0 as1 x2 hr0 hr1 (by have h9 := bulk_rows (by simp) hk hd0; omega) (by have h9 := bulk_rows (by simp) hk hd1; omega) (by have h7 := w2; simp only [Lit.wf, Bool.and_eq_true, decide_eq_true_eq] at h7; exact h7.2)).mono fun e W' ⟨he, _, hh⟩ => ?_
  subst he
  exact ⟨_, rfl, law_post laidOut (by kernel_rfl) rfl rfl Try.underlying4 (fun ds h => by rw [Try.params7] at h; match ds, h with | [_, _, _], _ => rfl) hW' (Hp.below hh)⟩

theorem lifted (os : Os) (started : os.Started) (H : Type) (enc : TypeId × Value → H) (F : Stop.Interp) :
    ReturnsInHanded {} Try.checked os 7 .any ((Rows.OpenSpec.upto Rows.diskEachSpec).pre6 enc Try.prog Try.f7 Rows.diskEachUptoRow.domain false) (((Rows.OpenSpec.upto Rows.diskEachSpec).at F).post enc Try.prog Try.f7 false true false false) := by
  refine returnsInHanded_of_cond (C := Try.checked) (s := Rows.OpenSpec.upto Rows.diskEachSpec) (k := Rows.uptoSmall) rfl own started (by kernel_rfl) Try.func7
    (OpenSpec.witness (enc := enc) (C := Try.checked) (s := Rows.OpenSpec.upto Rows.diskEachSpec) (k := Rows.uptoSmall) rfl false ⟨#[], #[.slice none 0 0, .slice none 0 0, .int .i64 0], []⟩ 8 (by kernel_rfl) (by kernel_rfl) (by kernel_rfl)
      (x := ([.nil, .nil, .lit (.int .i64 0)], [], [])) (by kernel_rfl) rfl (by kernel_rfl)) ?_
  intro W base args ds gs before hval hW _ hk _
  exact contract H enc W base args ds gs before hval hW hk
theorem over : Rows.diskEachUptoRow.holds Try.pinned (Rows.OpenSpec.upto Rows.diskEachSpec) :=
  OpenClaim.holds_of_cond 7 Try.f7 rfl rfl rfl rfl rfl rfl rfl ⟨rfl, rfl, rfl, rfl, rfl⟩ rfl rfl rfl rfl rfl (by kernel_rfl) Try.func7 (by kernel_rfl)
    (of_decide_eq_true (by kernel_rfl)) (by unfold Func.isWrapper; first | (rw [if_pos (by decide +kernel)]; kernel_rfl) | (rw [if_neg (by decide +kernel)]; exact ⟨rfl, rfl⟩))
    (fun os started H enc _ F => lifted os started H enc F)
end Go.Proofs.Ytfcmjddpoacenaa.diskEach
namespace Go.Proofs.Ytfcmjddpoacenaa
theorem diskEach_holds : Rows.DiskEachUptoSaid := diskEach.over
end Go.Proofs.Ytfcmjddpoacenaa
