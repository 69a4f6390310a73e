/- VerdictLoads: for every size of a table, every list of verdicts, one more and a letter, that hold at most 1048576 values and letters: loaded, the table refuses what the document's refuses, at the same place, and tells what it tells; what each verdict says is the same: the law returns true and leaves its argument as it was. -/
import Derived.Test.YtjmkoojojbfgpaaRows
import Derived.Test.YtjmkoojojbfgpaaGxLaw
import Derived.Test.YtjmkoojojbfgpaaW24
import Derived.Test.YtjmkoojojbfgpaaBulk
import Derived.Test.YtjmkoojojbfgpaaGxOld
import Derived.Test.YtjmkoojojbfgpaaGxAgg
namespace Go.Proofs.Ytjmkoojojbfgpaa.verdictLoads
open Go.ChangeShapes Go.WideShapes Go.ChangeAt Go.RowKit Go.Gx
open Go.ChangeMaps (open_string shut_string)
set_option linter.unusedVariables false
set_option linter.unusedSimpArgs false
set_option maxRecDepth 100000

theorem list10 {α : Type} {l : List α} (h : l.length = 10) : ∃ a b c d e f g i j k, l = [a, b, c, d, e, f, g, i, j, k] := by
  match l, h with
  | [a, b, c, d, e, f, g, i, j, k], _ => exact ⟨a, b, c, d, e, f, g, i, j, k, rfl⟩
theorem own : ownKnob Try.prog.godebug = none := by kernel_rfl
theorem laidOut : laidOutB Try.prog = true := by kernel_rfl
theorem contract (H : Type) (enc : TypeId × Value → H) (W : World) (base : Nat) (args : Array Value) (ds gs : List (DataW H)) (before : List MemPlace)
    (hval : ∀ (j : Nat) t v, Try.f5.params[j]? = some t → args[j]? = some v → Value.okWide Try.prog W .any base t v)
    (hW : DataW.Whole enc Try.prog Try.f5.params.toList Rows.verdictLoadsSpec.vars false W args.toList ds gs before) (hk : Rows.uptoSmall H (ds ++ gs) = true) :
    Calls Try.prog 5 args W fun e W' => ∃ v, e = .returned v ∧ Rows.verdictLoadsSpec.post enc Try.prog Try.f5 false true false false W args v W' := by
  have hW' := hW
  obtain ⟨p, q, hA0, hV, rfl, hfz, hnd⟩ := hW
  have hA : DataW.TrodAll enc Try.prog W 0 (fun _ => true) true Try.f5.params.toList args.toList ds p := hA0
  rw [Try.params5] at hA hval
  obtain ⟨v0, vs0, d0, ds0, p0, q0, hargs, rfl, rfl, h0, r0⟩ := trodAll_cons hA
  obtain ⟨rfl, rfl, rfl⟩ := trodAll_nil r0
  obtain rfl : args = #[v0] := by cases args; simp_all
  obtain ⟨rfl, rfl⟩ := trodVars_none hV
  obtain ⟨cs0, rfl, hlen⟩ := okWide_struct Try.underlying46 (hval 0 46 v0 rfl rfl)
  obtain ⟨fuel, hf⟩ := h0
  obtain ⟨mm, xs, hlen2, hm, hx⟩ := open_parts (cs := cs0.toList) Try.underlying46 (by simpa [Value.cells] using hf)
  obtain ⟨y0, g0, e0⟩ := mapM_at hm 0 _ rfl
  have hi0 : Fits [.i .i64] _ := fits_of_trod 6 3 [.i .i64] (by kernel_rfl) _ _ _ g0
  obtain ⟨x0, _, hc0, _, rfl⟩ := hi0
  obtain ⟨y1, g1, e1⟩ := mapM_at hm 1 _ rfl
  obtain ⟨xa1, xl1, xc1, ls1, hc1, hl1, hf1, ho1, hlc1, hcm1, hd1⟩ := open_rowsC (sz := 3) (n := 6) (sh := [.i .u64, .i .i64, .s]) Try.underlying44 (by kernel_rfl) (by kernel_rfl) (by omega) g1
  have hfl1 : ∀ vs ∈ ls1, vs.length = 3 := fun vs hvs => fits_length (hf1 vs hvs)
  obtain ⟨as1, rfl⟩ := map_of_all (f := Ver.Vt.cells) (ls := ls1) (fun vs hvs => by
    obtain ⟨z1, _, rfl, _, z2, _, rfl, _, z3, _, rfl, _, rfl⟩ := hf1 vs hvs
    exact ⟨⟨z1, z2, z3⟩, rfl⟩)
  rw [List.length_map] at hl1
  subst hl1
  have hr1 := RdA.of ho1 hfl1
  rw [Ver.vts_flat] at hr1
  obtain ⟨y2, g2, e2⟩ := mapM_at hm 2 _ rfl
  have hi2 : Fits [.i .u64, .i .i64, .s] _ := fits_of_trod 6 37 [.i .u64, .i .i64, .s] (by kernel_rfl) _ _ _ g2
  obtain ⟨v1, _, hc2, _, v2, _, rfl, _, v3, _, rfl, _, rfl⟩ := hi2
  obtain ⟨y3, g3, e3⟩ := mapM_at hm 3 _ rfl
  have hi3 : Fits [.i .i64, .i .i64, .i .u64, .s, .b] _ := fits_of_trod 6 32 [.i .i64, .i .i64, .i .u64, .s, .b] (by kernel_rfl) _ _ _ g3
  obtain ⟨i1, _, hc3, _, i2, _, rfl, _, i3, _, rfl, _, i4, _, rfl, _, i5, _, rfl, rfl⟩ := hi3
  obtain ⟨a0, a1, a2, a3, a4, a5, a6, a7, a8, a9, h5⟩ := list10 (l := cs0.toList) (by rw [hlen2]; kernel_rfl)
  rw [h5] at hc0 hc1 hc2 hc3
  have k44 : Try.prog.cellsOf 44 = 1 := by kernel_rfl
  have k37 : Try.prog.cellsOf 37 = 3 := by kernel_rfl
  have k32 : Try.prog.cellsOf 32 = 5 := by kernel_rfl
  have k3 : Try.prog.cellsOf 3 = 1 := by kernel_rfl
  obtain rfl : a0 = .int .i64 x0 := by simpa [k44, k37, k32, k3] using hc0
  obtain rfl : a1 = .slice xa1 as1.length xc1 := by simpa [k44, k37, k32, k3] using hc1
  obtain ⟨rfl, rfl, rfl⟩ : a2 = .int .u64 v1 ∧ a3 = .int .i64 v2 ∧ a4 = .string v3 := by simpa [k44, k37, k32, k3] using hc2
  obtain ⟨rfl, rfl, rfl, rfl, rfl⟩ : a5 = .int .i64 i1 ∧ a6 = .int .i64 i2 ∧ a7 = .int .u64 i3 ∧ a8 = .string i4 ∧ a9 = .bool i5 := by simpa [k44, k37, k32, k3] using hc3
  obtain rfl : cs0 = #[.int .i64 x0, .slice xa1 as1.length xc1, .int .u64 v1, .int .i64 v2, .string v3, .int .i64 i1, .int .i64 i2, .int .u64 i3, .string i4, .bool i5] := by apply Array.ext'; simpa using h5
  obtain rfl : d0 = .agg (xs.map (·.1)) := hx
  have hk2 := bulk_agg (by simpa using hk)
  have m1 : y1.1 ∈ xs.map (·.1) := List.mem_map.2 ⟨y1, List.mem_of_getElem? e1, rfl⟩
  have b1 := bulk_rows m1 hk2 hd1
  refine (Loads_spec (R := []) (Hp.start W) x0 as1 ⟨v1, v2, v3⟩ ⟨i1, i2, i3, i4, i5⟩ hr1 (by omega)).mono fun e W' ⟨he, _, hh⟩ => ?_
  subst he
  exact ⟨_, rfl, law_post laidOut (by kernel_rfl) rfl rfl Try.underlying4 (fun ds h => by rw [Try.params5] at h; match ds, h with | [_], _ => rfl) hW' (Hp.below hh)⟩

theorem lifted (os : Os) (started : os.Started) (H : Type) (enc : TypeId × Value → H) (F : Stop.Interp) :
    ReturnsInHanded {} Try.checked os 5 .any ((Rows.OpenSpec.upto Rows.verdictLoadsSpec).pre6 enc Try.prog Try.f5 Rows.verdictLoadsUptoRow.domain false) (((Rows.OpenSpec.upto Rows.verdictLoadsSpec).at F).post enc Try.prog Try.f5 false true false false) := by
  refine returnsInHanded_of_cond (C := Try.checked) (s := Rows.OpenSpec.upto Rows.verdictLoadsSpec) (k := Rows.uptoSmall) rfl own started (by kernel_rfl) Try.func5
    (OpenSpec.witness (enc := enc) (C := Try.checked) (s := Rows.OpenSpec.upto Rows.verdictLoadsSpec) (k := Rows.uptoSmall) rfl false ⟨#[], #[.agg #[.int .i64 0, .slice none 0 0, .int .u64 0, .int .i64 0, .string ⟨#[]⟩, .int .i64 0, .int .i64 0, .int .u64 0, .string ⟨#[]⟩, .bool false]], []⟩ 8 (by kernel_rfl) (by kernel_rfl) (by kernel_rfl)
      (x := ([.agg [.lit (.int .i64 0), .nil, .agg [.lit (.int .u64 0), .lit (.int .i64 0), .lit (.string [])], .agg [.lit (.int .i64 0), .lit (.int .i64 0), .lit (.int .u64 0), .lit (.string []), .lit (.bool false)]]], [], [])) (by kernel_rfl) rfl (by kernel_rfl)) ?_
  intro W base args ds gs before hval hW _ hk _
  exact contract H enc W base args ds gs before hval hW hk
theorem over : Rows.verdictLoadsUptoRow.holds Try.pinned (Rows.OpenSpec.upto Rows.verdictLoadsSpec) :=
  OpenClaim.holds_of_cond 5 Try.f5 rfl rfl rfl rfl rfl rfl rfl ⟨rfl, rfl, rfl, rfl, rfl⟩ rfl rfl rfl rfl rfl (by kernel_rfl) Try.func5 (by kernel_rfl)
    (of_decide_eq_true (by kernel_rfl)) (by unfold Func.isWrapper; first | (rw [if_pos (by decide +kernel)]; kernel_rfl) | (rw [if_neg (by decide +kernel)]; exact ⟨rfl, rfl⟩))
    (fun os started H enc _ F => lifted os started H enc F)
end Go.Proofs.Ytjmkoojojbfgpaa.verdictLoads
namespace Go.Proofs.Ytjmkoojojbfgpaa
theorem verdictLoads_holds : Rows.VerdictLoadsUptoSaid := verdictLoads.over
end Go.Proofs.Ytjmkoojojbfgpaa
