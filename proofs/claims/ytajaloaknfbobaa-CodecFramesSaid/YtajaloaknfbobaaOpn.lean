/- Layer 1: what the arguments of a law are: numbers in their range, bytes. No program in sight. -/
import Derived.Test.YtajaloaknfbobaaModel
import Derived.Test.YtajaloaknfbobaaGxOld
import Derived.Test.YtajaloaknfbobaaGxLaw
set_option linter.unusedVariables false
set_option linter.unusedSimpArgs false
namespace Go.Gx.Cod
open Go.Gx Go.RowKit
theorem natU64 {x : Int} (h : (Lit.int .u64 x).wf = true) : ∃ n : Nat, x = (n : Int) ∧ n < 18446744073709551616 := by
  simp only [Lit.wf, Bool.and_eq_true, decide_eq_true_eq] at h
  have h1 : (0 : Int) ≤ x := h.1
  have h2 : x ≤ 18446744073709551615 := h.2
  exact ⟨x.toNat, by omega, by omega⟩
theorem natU32 {x : Int} (h : (Lit.int .u32 x).wf = true) : ∃ n : UInt32, x = (n.toNat : Int) := by
  simp only [Lit.wf, Bool.and_eq_true, decide_eq_true_eq] at h
  have h1 : (0 : Int) ≤ x := h.1
  have h2 : x ≤ 4294967295 := h.2
  refine ⟨UInt32.ofNat x.toNat, ?_⟩
  simp; omega
theorem bdI64 {x : Int} (h : (Lit.int .i64 x).wf = true) : -9223372036854775808 ≤ x ∧ x < 9223372036854775808 := by
  simp only [Lit.wf, Bool.and_eq_true, decide_eq_true_eq] at h
  have h1 : (-9223372036854775808 : Int) ≤ x := h.1
  have h2 : x ≤ 9223372036854775807 := h.2
  omega
theorem byte_of {y : Int} (h : (Lit.int .u8 y).wf = true) : ∃ b : UInt8, [Value.int .u8 y] = [byteV b] := by
  simp only [Lit.wf, Bool.and_eq_true, decide_eq_true_eq] at h
  have h1 : (0 : Int) ≤ y := h.1
  have h2 : y ≤ 255 := h.2
  refine ⟨UInt8.ofNat y.toNat, ?_⟩
  simp only [byteV, List.cons.injEq, Value.int.injEq, true_and, and_true]
  simp; omega
theorem flat_bs (l : List UInt8) : (l.map fun b => [byteV b]).flatten = bs l := by
  induction l with
  | nil => rfl
  | cons a l ih => simp [bs] at *; exact ih
theorem rd_bytes {w : World} {x : Option Addr} {l : List UInt8} (h : OldRow w x (l.map fun b => [byteV b]) 1) (R : List Ent) : Rd w (fun _ => False) R x (bs l) := by
  have := RdA.of h (by simp)
  rw [flat_bs] at this
  exact this.rd R
end Go.Gx.Cod
