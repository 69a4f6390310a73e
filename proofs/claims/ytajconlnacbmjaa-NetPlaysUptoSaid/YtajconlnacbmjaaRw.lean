import Derived.Test.YtajconlnacbmjaaTab
set_option linter.unusedVariables false
set_option linter.unusedSimpArgs false
namespace Go.Gx.Net
open Go.Gx
theorem rows_shift {l : List Pk} {z : Pk} {t o n1 n2 : Nat} (ht : t ≤ l.length) (hm : min n2 n1 = l.length - t) (ho : o = (t + 1) * 5 ∨ t = l.length) :
    lay (rows (l ++ [z])) o (((rows (l ++ [z])).drop (t * 5)).take (min n2 n1 * 5)) = rows ((l ++ [z]).take (t + 1) ++ l.drop t) := by
  have e : ((rows (l ++ [z])).drop (t * 5)).take ((l.length - t) * 5) = rows (l.drop t) := by
    rw [rows_drop, rows_take, List.drop_append_of_le_length ht, List.take_append_of_le_length (by simp), List.take_of_length_le (by simp)]
  rw [hm, e, rows_append ((l ++ [z]).take (t + 1))]
  rcases ho with rfl | h
  · unfold lay
    rw [rows_take]
    have h3 : (rows (l ++ [z])).drop ((t + 1) * 5 + (rows (l.drop t)).length) = [] := List.drop_of_length_le (by rw [rows_length, rows_length]; simp; omega)
    rw [h3, List.append_nil]
  · subst h
    have h1 : rows (l.drop l.length) = [] := by simp [rows]
    rw [h1, List.append_nil, List.take_of_length_le (by simp)]
    simp [lay]
theorem ins_eq {p : Pk} : ∀ {l : List Pk} {t : Nat}, t ≤ l.length → l.insertIdx t p = l.take t ++ p :: l.drop t
  | l, 0, _ => by simp
  | [], t + 1, h => by simp at h
  | x :: l, t + 1, h => by
    rw [List.insertIdx_succ_cons, ins_eq (by simpa using h)]
    simp
theorem rows_put {l : List Pk} {z p : Pk} {t : Nat} (ht : t ≤ l.length) : lay (rows ((l ++ [z]).take (t + 1) ++ l.drop t)) (t * 5) p.cells = rows (l.insertIdx t p) := by
  rw [rows_set (by simp; omega)]
  congr 1
  rw [List.set_append_left _ _ (by simp; omega), ins_eq ht]
  have e : ((l ++ [z]).take (t + 1)).set t p = l.take t ++ [p] := by
    rw [List.set_eq_take_append_cons_drop, if_pos (by simp; omega)]
    rw [List.take_take, Nat.min_eq_left (by omega), List.take_append_of_le_length ht, List.drop_of_length_le (by simp; omega)]
  rw [e, List.append_assoc]
  rfl
end Go.Gx.Net
