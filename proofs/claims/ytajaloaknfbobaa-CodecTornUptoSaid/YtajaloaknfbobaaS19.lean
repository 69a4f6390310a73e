/- CodecTorn: for every list of loads and every place at which the row of their frames is cut, the whole frames are told, and what is torn is told to be torn: the law returns true and leaves its arguments as they were. Condition: what it reads is of bulk at most 1048576. -/
import Derived.Test.YtajaloaknfbobaaRows
import Derived.Test.YtajaloaknfbobaaGxLaw
import Derived.Deep.CondSized
import Derived.Test.YtajaloaknfbobaaW19
import Derived.Test.YtajaloaknfbobaaGrid
namespace Go.Proofs.Ytajaloaknfbobaa.codecTorn
open Go.ChangeShapes Go.WideShapes Go.ChangeAt Go.RowKit Go.Gx
open Go.ChangeMaps (open_string shut_string)
set_option linter.unusedVariables false
set_option linter.unusedSimpArgs false
set_option maxRecDepth 100000

theorem own : ownKnob Try.prog.godebug = none := by kernel_rfl
theorem laidOut : laidOutB Try.prog = true := by kernel_rfl
theorem contract (H : Type) (enc : TypeId × Value → H) (W : World) (base : Nat) (args : Array Value) (ds gs : List (DataW H)) (before : List MemPlace)
    (hval : ∀ (j : Nat) t v, Try.f8.params[j]? = some t → args[j]? = some v → Value.okWide Try.prog W .any base t v)
    (hW : DataW.Whole enc Try.prog Try.f8.params.toList Rows.codecTornSpec.vars false W args.toList ds gs before) (hk : Rows.uptoSmall H (ds ++ gs) = true) (hsz : (DataW.weightsEach Try.prog (Try.f8.params.toList ++ (Rows.OpenSpec.upto Rows.codecTornSpec).bare.plain.varTypes Try.prog) (ds ++ gs)).all (· ≤ reachBytes) = true) :
    Calls Try.prog 8 args W fun e W' => ∃ v, e = .returned v ∧ Rows.codecTornSpec.post enc Try.prog Try.f8 false true false false W args v W' := by
  have hW' := hW
  obtain ⟨p, q, hA0, hV, rfl, hfz, hnd⟩ := hW
  have hA : DataW.TrodAll enc Try.prog W 0 (fun _ => true) true Try.f8.params.toList args.toList ds p := hA0
  rw [Try.params8] at hA hval hsz
  obtain ⟨v0, vs0, d0, ds0, p0, q0, hargs, rfl, rfl, h0, r0⟩ := trodAll_cons hA
  obtain ⟨v1, vs1, d1, ds1, p1, q1, rfl, rfl, rfl, h1, r1⟩ := trodAll_cons r0
  obtain ⟨rfl, rfl, rfl⟩ := trodAll_nil r1
  obtain rfl : args = #[v0, v1] := by cases args; simp_all
  obtain ⟨rfl, rfl⟩ := trodVars_none hV
  obtain ⟨xa0, xc0, rs0, rfl, hlc0, hcm0, ho0, hE0⟩ := Cod.open_grid (u := 5) (n := 6) Try.underlying54 Try.underlying22 (by kernel_rfl) (by kernel_rfl) (by kernel_rfl) (hval 0 54 v0 rfl rfl) h0
  obtain ⟨x1, rfl, rfl, rfl, w1⟩ := open_int Try.underlying3 (hval 1 3 v1 rfl rfl) h1
  have hE : ∀ r ∈ rs0, Rd W (fun _ => False) [] r.1 (Cod.bs r.2.2) ∧ r.2.2.length ≤ 140737488351232 := by
    intro r hr
    obtain ⟨⟨h1, _, _⟩, h2⟩ := hE0 r hr
    refine ⟨Cod.rd_bytes h1 [], ?_⟩
    rcases h2 with h2 | ⟨elems, spare, E, S, rfl, hm, hl⟩
    · omega
    · have h3 := Cod.sized_grid hsz (j := 0) (t := 54) (e := 22) (u := 5) rfl rfl hm Try.underlying54 Try.underlying22
      rw [show Try.prog.bytesOf 5 = 1 by kernel_rfl] at h3
      unfold reachBytes at h3
      omega
  refine (Torn_spec (R := []) (Hp.start W) (Cod.rd_grid ho0 []) rfl hE).mono fun e W' ⟨he, _, hh⟩ => ?_
  subst he
  exact ⟨_, rfl, law_post laidOut (by kernel_rfl) rfl rfl Try.underlying4 (fun ds h => by rw [Try.params8] at h; match ds, h with | [_, _], _ => rfl) hW' (Hp.below hh)⟩

theorem lifted (os : Os) (started : os.Started) (H : Type) (enc : TypeId × Value → H) (F : Stop.Interp) :
    ReturnsInHanded {} Try.checked os 8 .any ((Rows.OpenSpec.upto Rows.codecTornSpec).pre6 enc Try.prog Try.f8 Rows.codecTornUptoRow.domain false) (((Rows.OpenSpec.upto Rows.codecTornSpec).at F).post enc Try.prog Try.f8 false true false false) := by
  refine returnsInHanded_of_cond_sized (C := Try.checked) (s := Rows.OpenSpec.upto Rows.codecTornSpec) (k := Rows.uptoSmall) rfl own started (by kernel_rfl) Try.func8
    (OpenSpec.witness (enc := enc) (C := Try.checked) (s := Rows.OpenSpec.upto Rows.codecTornSpec) (k := Rows.uptoSmall) rfl false ⟨#[], #[.slice none 0 0, .int .i64 0], []⟩ 8 (by kernel_rfl) (by kernel_rfl) (by kernel_rfl)
      (x := ([.nil, .lit (.int .i64 0)], [], [])) (by kernel_rfl) rfl (by kernel_rfl)) ?_
  intro W base args ds gs before hval hW _ hk hsz _
  exact contract H enc W base args ds gs before hval hW hk hsz
theorem over : Rows.codecTornUptoRow.holds Try.pinned (Rows.OpenSpec.upto Rows.codecTornSpec) :=
  OpenClaim.holds_of_cond 8 Try.f8 rfl rfl rfl rfl rfl rfl rfl ⟨rfl, rfl, rfl, rfl, rfl⟩ rfl rfl rfl rfl rfl (by kernel_rfl) Try.func8 (by kernel_rfl)
    (of_decide_eq_true (by kernel_rfl)) (by unfold Func.isWrapper; first | (rw [if_pos (by decide +kernel)]; kernel_rfl) | (rw [if_neg (by decide +kernel)]; exact ⟨rfl, rfl⟩))
    (fun os started H enc _ F => lifted os started H enc F)
end Go.Proofs.Ytajaloaknfbobaa.codecTorn
namespace Go.Proofs.Ytajaloaknfbobaa
theorem codecTorn_holds : Rows.CodecTornUptoSaid := codecTorn.over
end Go.Proofs.Ytajaloaknfbobaa
