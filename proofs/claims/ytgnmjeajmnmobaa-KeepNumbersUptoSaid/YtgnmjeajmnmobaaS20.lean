/- KeepNumbers: for every list of texts, every text asked and every number, the table gives each text one number in the order of first sight, finds only what it holds, and gives back each number's text: the law returns true and leaves its arguments as they were. Condition: what it reads is of bulk at most 1048576. -/
import Derived.Test.YtgnmjeajmnmobaaRows
import Derived.Test.YtgnmjeajmnmobaaGxLaw
import Derived.Test.YtgnmjeajmnmobaaW20
import Derived.Test.YtgnmjeajmnmobaaOpn
import Derived.Test.YtgnmjeajmnmobaaBulk
namespace Go.Proofs.Ytgnmjeajmnmobaa.keepNumbers
open Go.ChangeShapes Go.WideShapes Go.ChangeAt Go.RowKit Go.Gx
open Go.ChangeMaps (open_string shut_string)
set_option linter.unusedVariables false
set_option linter.unusedSimpArgs false
set_option maxRecDepth 100000

theorem own : ownKnob Try.prog.godebug = none := by kernel_rfl
theorem laidOut : laidOutB Try.prog = true := by kernel_rfl
theorem contract (H : Type) (enc : TypeId × Value → H) (W : World) (base : Nat) (args : Array Value) (ds gs : List (DataW H)) (before : List MemPlace)
    (hval : ∀ (j : Nat) t v, Try.f5.params[j]? = some t → args[j]? = some v → Value.okWide Try.prog W .any base t v)
    (hW : DataW.Whole enc Try.prog Try.f5.params.toList Rows.keepNumbersSpec.vars false W args.toList ds gs before) (hk : Rows.uptoSmall H (ds ++ gs) = true) :
    Calls Try.prog 5 args W fun e W' => ∃ v, e = .returned v ∧ Rows.keepNumbersSpec.post enc Try.prog Try.f5 false true false false W args v W' := by
  have hW' := hW
  obtain ⟨p, q, hA0, hV, rfl, hfz, hnd⟩ := hW
  have hA : DataW.TrodAll enc Try.prog W 0 (fun _ => true) true Try.f5.params.toList args.toList ds p := hA0
  rw [Try.params5] at hA hval
  obtain ⟨v0, vs0, d0, ds0, p0, q0, hargs, rfl, rfl, h0, r0⟩ := trodAll_cons hA
  obtain ⟨v1, vs1, d1, ds1, p1, q1, rfl, rfl, rfl, h1, r1⟩ := trodAll_cons r0
  obtain ⟨v2, vs2, d2, ds2, p2, q2, rfl, rfl, rfl, h2, r2⟩ := trodAll_cons r1
  obtain ⟨rfl, rfl, rfl⟩ := trodAll_nil r2
  obtain rfl : args = #[v0, v1, v2] := by cases args; simp_all
  obtain ⟨rfl, rfl⟩ := trodVars_none hV
  obtain ⟨xa0, xl0, xc0, ls0, rfl, hl0, hf0, ho0, hlc0, hcm0, hd0⟩ := open_rows (sz := 1) (n := 6) (sh := [.s]) Try.underlying52 (by kernel_rfl) (by kernel_rfl) (by omega) (hval 0 52 v0 rfl rfl) h0
  obtain ⟨el0, rfl⟩ := map_of_all (f := fun x : ByteArray => [Value.string x]) (ls := ls0) (fun vs hvs => by
    obtain ⟨y1, _, rfl, hw1, rfl⟩ := hf0 vs hvs
    exact ⟨y1, rfl⟩)
  rw [List.length_map] at hl0
  obtain ⟨x1, rfl, rfl, rfl, w1⟩ := open_string Try.underlying9 (hval 1 9 v1 rfl rfl) h1
  obtain ⟨x2, rfl, rfl, rfl, w2⟩ := open_int Try.underlying3 (hval 2 3 v2 rfl rfl) h2
  refine (Numbers_spec (R := []) (Hp.start W) (rd_strs ho0 []) hl0 (bulk_rows (by simp) hk hd0)).mono fun e W' ⟨he, _, hh⟩ => ?_
  subst he
  exact ⟨_, rfl, law_post laidOut (by kernel_rfl) rfl rfl Try.underlying4 (fun ds h => by rw [Try.params5] at h; match ds, h with | [_, _, _], _ => rfl) hW' (Hp.below hh)⟩

theorem lifted (os : Os) (started : os.Started) (H : Type) (enc : TypeId × Value → H) (F : Stop.Interp) :
    ReturnsInHanded {} Try.checked os 5 .any ((Rows.OpenSpec.upto Rows.keepNumbersSpec).pre6 enc Try.prog Try.f5 Rows.keepNumbersUptoRow.domain false) (((Rows.OpenSpec.upto Rows.keepNumbersSpec).at F).post enc Try.prog Try.f5 false true false false) := by
  refine returnsInHanded_of_cond (C := Try.checked) (s := Rows.OpenSpec.upto Rows.keepNumbersSpec) (k := Rows.uptoSmall) rfl own started (by kernel_rfl) Try.func5
    (OpenSpec.witness (enc := enc) (C := Try.checked) (s := Rows.OpenSpec.upto Rows.keepNumbersSpec) (k := Rows.uptoSmall) rfl false ⟨#[], #[.slice none 0 0, .string ⟨#[]⟩, .int .i64 0], []⟩ 8 (by kernel_rfl) (by kernel_rfl) (by kernel_rfl)
      (x := ([.nil, .lit (.string []), .lit (.int .i64 0)], [], [])) (by kernel_rfl) rfl (by kernel_rfl)) ?_
  intro W base args ds gs before hval hW _ hk _
  exact contract H enc W base args ds gs before hval hW hk
theorem over : Rows.keepNumbersUptoRow.holds Try.pinned (Rows.OpenSpec.upto Rows.keepNumbersSpec) :=
  OpenClaim.holds_of_cond 5 Try.f5 rfl rfl rfl rfl rfl rfl rfl ⟨rfl, rfl, rfl, rfl, rfl⟩ rfl rfl rfl rfl rfl (by kernel_rfl) Try.func5 (by kernel_rfl)
    (of_decide_eq_true (by kernel_rfl)) (by unfold Func.isWrapper; first | (rw [if_pos (by decide +kernel)]; kernel_rfl) | (rw [if_neg (by decide +kernel)]; exact ⟨rfl, rfl⟩))
    (fun os started H enc _ F => lifted os started H enc F)
end Go.Proofs.Ytgnmjeajmnmobaa.keepNumbers
namespace Go.Proofs.Ytgnmjeajmnmobaa
theorem keepNumbers_holds : Rows.KeepNumbersUptoSaid := keepNumbers.over
end Go.Proofs.Ytgnmjeajmnmobaa
