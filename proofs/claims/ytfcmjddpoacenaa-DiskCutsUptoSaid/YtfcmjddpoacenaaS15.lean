/- DiskCuts: for every image, every list of acts, and every two numbers that hold at most 1048576 values and letters: cut, and cut again, is cut at once: the law returns true and leaves its argument as it was. -/
import Derived.Test.YtfcmjddpoacenaaRows
import Derived.Test.YtfcmjddpoacenaaGxLaw
import Derived.Test.YtfcmjddpoacenaaW15
import Derived.Test.YtfcmjddpoacenaaBulk
import Derived.Test.YtfcmjddpoacenaaGxOld
import Derived.Test.YtfcmjddpoacenaaGxAgg
namespace Go.Proofs.Ytfcmjddpoacenaa.diskCuts
open Go.ChangeShapes Go.WideShapes Go.ChangeAt Go.RowKit Go.Gx
open Go.ChangeMaps (open_string shut_string)
set_option linter.unusedVariables false
set_option linter.unusedSimpArgs false
set_option maxRecDepth 100000

theorem own : ownKnob Try.prog.godebug = none := by kernel_rfl
theorem laidOut : laidOutB Try.prog = true := by kernel_rfl
theorem contract (H : Type) (enc : TypeId × Value → H) (W : World) (base : Nat) (args : Array Value) (ds gs : List (DataW H)) (before : List MemPlace)
    (hval : ∀ (j : Nat) t v, Try.f6.params[j]? = some t → args[j]? = some v → Value.okWide Try.prog W .any base t v)
    (hW : DataW.Whole enc Try.prog Try.f6.params.toList Rows.diskCutsSpec.vars false W args.toList ds gs before) (hk : Rows.uptoSmall H (ds ++ gs) = true) :
    Calls Try.prog 6 args W fun e W' => ∃ v, e = .returned v ∧ Rows.diskCutsSpec.post enc Try.prog Try.f6 false true false false W args v W' := by
  have hW' := hW
  obtain ⟨p, q, hA0, hV, rfl, hfz, hnd⟩ := hW
  have hA : DataW.TrodAll enc Try.prog W 0 (fun _ => true) true Try.f6.params.toList args.toList ds p := hA0
  rw [Try.params6] at hA hval
  obtain ⟨v0, vs0, d0, ds0, p0, q0, hargs, rfl, rfl, h0, r0⟩ := trodAll_cons hA
  obtain ⟨rfl, rfl, rfl⟩ := trodAll_nil r0
  obtain rfl : args = #[v0] := by cases args; simp_all
  obtain ⟨rfl, rfl⟩ := trodVars_none hV
  obtain ⟨cs0, rfl, hlen⟩ := okWide_struct Try.underlying52 (hval 0 52 v0 rfl rfl)
  obtain ⟨fuel, hf⟩ := h0
  obtain ⟨mm, xs, hlen2, hm, hx⟩ := open_parts (cs := cs0.toList) Try.underlying52 (by simpa [Value.cells] using hf)
  obtain ⟨y0, g0, e0⟩ := mapM_at hm 0 _ rfl
  obtain ⟨xa0, xl0, xc0, ls0, hc0, hl0, hf0, ho0, hlc0, hcm0, hd0⟩ := open_rowsC (sz := 1) (n := 6) (sh := [.s]) Try.underlying33 (by kernel_rfl) (by kernel_rfl) (by omega) g0
  have hfl0 : ∀ vs ∈ ls0, vs.length = 1 := fun vs hvs => fits_length (hf0 vs hvs)
  obtain ⟨as0, rfl⟩ := map_of_all (f := (fun s : ByteArray => [Value.string s])) (ls := ls0) (fun vs hvs => by
    obtain ⟨z1, _, rfl, _, rfl⟩ := hf0 vs hvs
    exact ⟨z1, rfl⟩)
  rw [List.length_map] at hl0
  subst hl0
  have hr0 := RdA.of ho0 hfl0
  rw [Dsk.strs_flat] at hr0
  obtain ⟨y1, g1, e1⟩ := mapM_at hm 1 _ rfl
  obtain ⟨xa1, xl1, xc1, ls1, hc1, hl1, hf1, ho1, hlc1, hcm1, hd1⟩ := open_rowsC (sz := 3) (n := 6) (sh := [.i .i64, .i .i64, .s]) Try.underlying37 (by kernel_rfl) (by kernel_rfl) (by omega) g1
  have hfl1 : ∀ vs ∈ ls1, vs.length = 3 := fun vs hvs => fits_length (hf1 vs hvs)
  obtain ⟨as1, rfl⟩ := map_of_all (f := Dsk.Ac.cells) (ls := ls1) (fun vs hvs => by
    obtain ⟨z1, _, rfl, _, z2, _, rfl, _, z3, _, rfl, _, rfl⟩ := hf1 vs hvs
    exact ⟨⟨z1, z2, z3⟩, rfl⟩)
  rw [List.length_map] at hl1
  subst hl1
  have hr1 := RdA.of ho1 hfl1
  rw [Dsk.acs_flat] at hr1
  obtain ⟨y2, g2, e2⟩ := mapM_at hm 2 _ rfl
  have hi2 : Fits [.i .i64] _ := fits_of_trod 6 3 [.i .i64] (by kernel_rfl) _ _ _ g2
  obtain ⟨x2, _, hc2, _, rfl⟩ := hi2
  obtain ⟨y3, g3, e3⟩ := mapM_at hm 3 _ rfl
  have hi3 : Fits [.i .i64] _ := fits_of_trod 6 3 [.i .i64] (by kernel_rfl) _ _ _ g3
  obtain ⟨x3, _, hc3, _, rfl⟩ := hi3
  obtain ⟨a0, a1, a2, a3, h5⟩ := list4 (l := cs0.toList) (by rw [hlen2]; kernel_rfl)
  rw [h5] at hc0 hc1 hc2 hc3
  have k33 : Try.prog.cellsOf 33 = 1 := by kernel_rfl
  have k37 : Try.prog.cellsOf 37 = 1 := by kernel_rfl
  have k3 : Try.prog.cellsOf 3 = 1 := by kernel_rfl
  obtain rfl : a0 = .slice xa0 as0.length xc0 := by simpa [k33, k37, k3] using hc0
  obtain rfl : a1 = .slice xa1 as1.length xc1 := by simpa [k33, k37, k3] using hc1
  obtain rfl : a2 = .int .i64 x2 := by simpa [k33, k37, k3] using hc2
  obtain rfl : a3 = .int .i64 x3 := by simpa [k33, k37, k3] using hc3
  obtain rfl : cs0 = #[.slice xa0 as0.length xc0, .slice xa1 as1.length xc1, .int .i64 x2, .int .i64 x3] := by apply Array.ext'; simpa using h5
  obtain rfl : d0 = .agg (xs.map (·.1)) := hx
  have hk2 := bulk_agg (by simpa using hk)
  have m0 : y0.1 ∈ xs.map (·.1) := List.mem_map.2 ⟨y0, List.mem_of_getElem? e0, rfl⟩
  have m1 : y1.1 ∈ xs.map (·.1) := List.mem_map.2 ⟨y1, List.mem_of_getElem? e1, rfl⟩
  have b0 := bulk_rows m0 hk2 hd0
  have b1 := bulk_rows m1 hk2 hd1
  refine (Cuts_spec (R := []) (Hp.start W) as0 as1 x2 x3 hr0 hr1 (by omega) (by omega)).mono fun e W' ⟨he, _, hh⟩ => ?_
  subst he
  exact ⟨_, rfl, law_post laidOut (by kernel_rfl) rfl rfl Try.underlying4 (fun ds h => by rw [Try.params6] at h; match ds, h with | [_], _ => rfl) hW' (Hp.below hh)⟩

theorem lifted (os : Os) (started : os.Started) (H : Type) (enc : TypeId × Value → H) (F : Stop.Interp) :
    ReturnsInHanded {} Try.checked os 6 .any ((Rows.OpenSpec.upto Rows.diskCutsSpec).pre6 enc Try.prog Try.f6 Rows.diskCutsUptoRow.domain false) (((Rows.OpenSpec.upto Rows.diskCutsSpec).at F).post enc Try.prog Try.f6 false true false false) := by
  refine returnsInHanded_of_cond (C := Try.checked) (s := Rows.OpenSpec.upto Rows.diskCutsSpec) (k := Rows.uptoSmall) rfl own started (by kernel_rfl) Try.func6
    (OpenSpec.witness (enc := enc) (C := Try.checked) (s := Rows.OpenSpec.upto Rows.diskCutsSpec) (k := Rows.uptoSmall) rfl false ⟨#[], #[.agg #[.slice none 0 0, .slice none 0 0, .int .i64 0, .int .i64 0]], []⟩ 8 (by kernel_rfl) (by kernel_rfl) (by kernel_rfl)
      (x := ([.agg [.nil, .nil, .lit (.int .i64 0), .lit (.int .i64 0)]], [], [])) (by kernel_rfl) rfl (by kernel_rfl)) ?_
  intro W base args ds gs before hval hW _ hk _
  exact contract H enc W base args ds gs before hval hW hk
theorem over : Rows.diskCutsUptoRow.holds Try.pinned (Rows.OpenSpec.upto Rows.diskCutsSpec) :=
  OpenClaim.holds_of_cond 6 Try.f6 rfl rfl rfl rfl rfl rfl rfl ⟨rfl, rfl, rfl, rfl, rfl⟩ rfl rfl rfl rfl rfl (by kernel_rfl) Try.func6 (by kernel_rfl)
    (of_decide_eq_true (by kernel_rfl)) (by unfold Func.isWrapper; first | (rw [if_pos (by decide +kernel)]; kernel_rfl) | (rw [if_neg (by decide +kernel)]; exact ⟨rfl, rfl⟩))
    (fun os started H enc _ F => lifted os started H enc F)
end Go.Proofs.Ytfcmjddpoacenaa.diskCuts
namespace Go.Proofs.Ytfcmjddpoacenaa
theorem diskCuts_holds : Rows.DiskCutsUptoSaid := diskCuts.over
end Go.Proofs.Ytfcmjddpoacenaa
