/- Layer 4: what the arguments of a law are: lists of entries, of acts, of numbers, of texts. -/
import Derived.Test.YtgnmjeajmnmobaaW16
import Derived.Test.YtgnmjeajmnmobaaGxOld
import Derived.Test.YtgnmjeajmnmobaaGxLaw
set_option linter.unusedVariables false
set_option linter.unusedSimpArgs false
namespace Go.Proofs.Ytgnmjeajmnmobaa
open Go.RowKit Go.Gx Go.Gx.Kp
theorem flat_ents (l : Ents) : (l.map fun x => [Value.string x.1, Value.int .i64 x.2]).flatten = cellsE l := by
  induction l with
  | nil => rfl
  | cons a l ih => simp only [List.map_cons, List.flatten_cons, ih]; rfl
theorem rd_ents {w : World} {x : Option Addr} {l : Ents} (h : OldRow w x (l.map fun x => [Value.string x.1, Value.int .i64 x.2]) 2) (R : List Ent) : Rd w (fun _ => False) R x (cellsE l) := by
  have := RdA.of h (fun vs hv => by obtain ⟨y, _, rfl⟩ := List.mem_map.1 hv; rfl)
  rw [flat_ents] at this
  exact this.rd R
theorem flat_ints (l : List Int) : (l.map fun x => [Value.int .i64 x]).flatten = ints l := by
  induction l with
  | nil => rfl
  | cons a l ih => simp only [List.map_cons, List.flatten_cons, ih]; rfl
theorem rd_ints {w : World} {x : Option Addr} {l : List Int} (h : OldRow w x (l.map fun x => [Value.int .i64 x]) 1) (R : List Ent) : Rd w (fun _ => False) R x (ints l) := by
  have := RdA.of h (fun vs hv => by obtain ⟨y, _, rfl⟩ := List.mem_map.1 hv; rfl)
  rw [flat_ints] at this
  exact this.rd R
theorem flat_strs (l : List ByteArray) : (l.map fun x => [Value.string x]).flatten = strs l := by
  induction l with
  | nil => rfl
  | cons a l ih => simp only [List.map_cons, List.flatten_cons, ih]; rfl
theorem rd_strs {w : World} {x : Option Addr} {l : List ByteArray} (h : OldRow w x (l.map fun x => [Value.string x]) 1) (R : List Ent) : Rd w (fun _ => False) R x (strs l) := by
  have := RdA.of h (fun vs hv => by obtain ⟨y, _, rfl⟩ := List.mem_map.1 hv; rfl)
  rw [flat_strs] at this
  exact this.rd R
end Go.Proofs.Ytgnmjeajmnmobaa
