/- Layer 4: what the arguments of a law are: a list of acts. -/
import Derived.Test.YtgnmjeajmnmobaaL21
import Derived.Test.YtgnmjeajmnmobaaGxOld
import Derived.Test.YtgnmjeajmnmobaaGxLaw
set_option linter.unusedVariables false
set_option linter.unusedSimpArgs false
namespace Go.Proofs.Ytgnmjeajmnmobaa
open Go.RowKit Go.Gx Go.Gx.Kp
theorem flat_acts (l : List AcT) : (l.map fun x => [Value.int .i64 x.1, .string x.2.1, .int .i64 x.2.2]).flatten = cellsA l := by
  induction l with
  | nil => rfl
  | cons a l ih => simp only [List.map_cons, List.flatten_cons, ih]; rfl
theorem rd_acts {w : World} {x : Option Addr} {l : List AcT} (h : OldRow w x (l.map fun x => [Value.int .i64 x.1, .string x.2.1, .int .i64 x.2.2]) 3) (R : List Ent) : Rd w (fun _ => False) R x (cellsA l) := by
  have := RdA.of h (fun vs hv => by obtain ⟨y, _, rfl⟩ := List.mem_map.1 hv; rfl)
  rw [flat_acts] at this
  exact this.rd R
theorem kinds_of {l : List AcT} (h : ∀ vs ∈ (l.map fun x => [Value.int .i64 x.1, .string x.2.1, .int .i64 x.2.2]), Fits [.i .i64, .s, .i .i64] vs) : ∀ y ∈ l, y.1 ≤ 9223372036854775807 := by
  intro y hy
  obtain ⟨n, cs, e, hw, _⟩ := h _ (List.mem_map_of_mem hy)
  cases e
  simp [Lit.wf, IntKind.wrap_i64] at hw
  omega
end Go.Proofs.Ytgnmjeajmnmobaa
