/- CodecTurned: for all bytes, every place and mask, a sealed frame of which one byte is turned is told to be torn, and an untouched one is opened: the law returns true and leaves its arguments as they were. No condition. -/
import Derived.Test.YtajaloaknfbobaaRows
import Derived.Test.YtajaloaknfbobaaGxLaw
import Derived.SizedLaws
import Derived.Test.YtajaloaknfbobaaW17
import Derived.Test.YtajaloaknfbobaaOpn
namespace Go.Proofs.Ytajaloaknfbobaa.codecTurned
open Go.ChangeShapes Go.WideShapes Go.ChangeAt Go.RowKit Go.Gx
open Go.ChangeMaps (open_string shut_string)
set_option linter.unusedVariables false
set_option linter.unusedSimpArgs false
set_option maxRecDepth 100000

theorem own : ownKnob Try.prog.godebug = none := by kernel_rfl
theorem laidOut : laidOutB Try.prog = true := by kernel_rfl
theorem contract (H : Type) (enc : TypeId × Value → H) (W : World) (base : Nat) (args : Array Value) (ds gs : List (DataW H)) (before : List MemPlace)
    (hval : ∀ (j : Nat) t v, Try.f3.params[j]? = some t → args[j]? = some v → Value.okWide Try.prog W .any base t v)
    (hW : DataW.Whole enc Try.prog Try.f3.params.toList Rows.codecTurnedSpec.vars false W args.toList ds gs before)  (hsz : (DataW.weightsEach Try.prog (Try.f3.params.toList ++ Rows.codecTurnedSpec.plain.varTypes Try.prog) (ds ++ gs)).all (· ≤ reachBytes) = true) :
    Calls Try.prog 3 args W fun e W' => ∃ v, e = .returned v ∧ Rows.codecTurnedSpec.post enc Try.prog Try.f3 false true false false W args v W' := by
  have hW' := hW
  obtain ⟨p, q, hA0, hV, rfl, hfz, hnd⟩ := hW
  have hA : DataW.TrodAll enc Try.prog W 0 (fun _ => true) true Try.f3.params.toList args.toList ds p := hA0
  rw [Try.params3] at hA hval hsz
  obtain ⟨v0, vs0, d0, ds0, p0, q0, hargs, rfl, rfl, h0, r0⟩ := trodAll_cons hA
  obtain ⟨v1, vs1, d1, ds1, p1, q1, rfl, rfl, rfl, h1, r1⟩ := trodAll_cons r0
  obtain ⟨v2, vs2, d2, ds2, p2, q2, rfl, rfl, rfl, h2, r2⟩ := trodAll_cons r1
  obtain ⟨rfl, rfl, rfl⟩ := trodAll_nil r2
  obtain rfl : args = #[v0, v1, v2] := by cases args; simp_all
  obtain ⟨rfl, rfl⟩ := trodVars_none hV
  obtain ⟨xa0, xl0, xc0, ls0, rfl, hl0, hf0, ho0, hlc0, hcm0, hd0⟩ := open_rows (sz := 1) (n := 6) (sh := [.i .u8]) Try.underlying22 (by kernel_rfl) (by kernel_rfl) (by omega) (hval 0 22 v0 rfl rfl) h0
  obtain ⟨bl0, rfl⟩ := map_of_all (f := fun b : UInt8 => [byteV b]) (ls := ls0) (fun vs hvs => by
    obtain ⟨y1, _, rfl, hw, rfl⟩ := hf0 vs hvs
    exact Cod.byte_of hw)
  rw [List.length_map] at hl0
  subst hl0
  obtain ⟨x1, rfl, rfl, rfl, w1⟩ := open_int Try.underlying3 (hval 1 3 v1 rfl rfl) h1
  obtain ⟨x2, rfl, rfl, rfl, w2⟩ := open_int Try.underlying23 (hval 2 23 v2 rfl rfl) h2
  obtain ⟨X2, rfl⟩ := Cod.natU32 w2
  have hr : bl0.length ≤ 140737488351232 := by
    rcases hd0 with ⟨_, h⟩ | ⟨elems, spare, rfl, h, _⟩
    · omega
    · have h1 := sized_slice hsz (j := 0) (t := 22) (e := 5) rfl rfl Try.underlying22
      rw [show Try.prog.bytesOf 5 = 1 by kernel_rfl] at h1
      unfold reachBytes at h1
      omega
  refine (Turned_spec (R := []) (Hp.start W) (Cod.bdI64 w1).1 (Cod.bdI64 w1).2 (Cod.rd_bytes ho0 []) hr).mono fun e W' ⟨he, _, hh⟩ => ?_
  subst he
  exact ⟨_, rfl, law_post laidOut (by kernel_rfl) rfl rfl Try.underlying4 (fun ds h => by rw [Try.params3] at h; match ds, h with | [_, _, _], _ => rfl) hW' (Hp.below hh)⟩

theorem lifted (os : Os) (started : os.Started) (H : Type) (enc : TypeId × Value → H) :
    ReturnsInHanded {} Try.checked os 3 .any (Rows.codecTurnedSpec.pre6 enc Try.prog Try.f3 Rows.codecTurnedRow.domain false) (Rows.codecTurnedSpec.post enc Try.prog Try.f3 false true false false) := by
  refine returnsInHanded_of_change_sized (C := Try.checked) own started (by kernel_rfl) Try.func3
    (ChangeSpec.witness6 (enc := enc) (C := Try.checked) false ⟨#[], #[.slice none 0 0, .int .i64 0, .int .u32 0], []⟩ 8 (by kernel_rfl) (by kernel_rfl) (by kernel_rfl) (by kernel_rfl)) ?_
  intro W base args ds gs before hval hW _ hsz _
  exact contract H enc W base args ds gs before hval hW hsz
theorem over : Rows.codecTurnedRow.holds Try.pinned (OpenSpec.ofChange Rows.codecTurnedSpec) :=
  OpenClaim.holds_of_wide 3 Try.f3 rfl rfl rfl rfl rfl rfl rfl ⟨rfl, rfl, rfl, rfl, rfl⟩ rfl rfl rfl rfl rfl (by kernel_rfl) Try.func3 (by kernel_rfl)
    (of_decide_eq_true (by kernel_rfl)) (by unfold Func.isWrapper; first | (rw [if_pos (by decide +kernel)]; kernel_rfl) | (rw [if_neg (by decide +kernel)]; exact ⟨rfl, rfl⟩))
    (fun os started H enc _ => lifted os started H enc)
end Go.Proofs.Ytajaloaknfbobaa.codecTurned
namespace Go.Proofs.Ytajaloaknfbobaa
theorem codecTurned_holds : Rows.CodecTurnedSaid := codecTurned.over
end Go.Proofs.Ytajaloaknfbobaa
