/- A list of numbers that came in can be read wherever the call goes on. -/
import Derived.Test.YtgnmjeajmnmobaaW11
import Derived.Test.YtgnmjeajmnmobaaGxOld
import Derived.Test.YtgnmjeajmnmobaaGxRd
set_option linter.unusedVariables false
set_option linter.unusedSimpArgs false
namespace Go.Proofs.Ytgnmjeajmnmobaa
open Go.RowKit Go.Gx Go.Gx.Kp
theorem flat_ints (l : List Int) : (l.map fun x => [Value.int .i64 x]).flatten = ints l := by
  induction l with
  | nil => rfl
  | cons a l ih => simp only [List.map_cons, List.flatten_cons, ih]; rfl
theorem rd_ints {w : World} {x : Option Addr} {l : List Int} (h : OldRow w x (l.map fun x => [Value.int .i64 x]) 1) (R : List Ent) : Rd w (fun _ => False) R x (ints l) := by
  have := RdA.of h (fun vs hv => by obtain ⟨y, _, rfl⟩ := List.mem_map.1 hv; rfl)
  rw [flat_ints] at this
  exact this.rd R
end Go.Proofs.Ytgnmjeajmnmobaa
