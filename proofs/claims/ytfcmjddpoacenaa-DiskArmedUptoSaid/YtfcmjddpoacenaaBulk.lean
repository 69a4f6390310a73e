/- What the bound of the second form says of the lengths that came in. -/
import Derived.Test.YtfcmjddpoacenaaRows
set_option linter.unusedVariables false
set_option linter.unusedSimpArgs false
namespace Go.Proofs.Ytfcmjddpoacenaa
theorem bulk_pos {H : Type} (d : DataW H) : 1 ≤ Rows.uptoBulk d := by
  cases d <;> (try (rename_i x; cases x)) <;> simp [Rows.uptoBulk]
theorem bulk_len {H : Type} : ∀ l : List (DataW H), l.length ≤ Rows.uptoBulkAll l
  | [] => by simp [Rows.uptoBulkAll]
  | x :: r => by have := bulk_pos x; have := bulk_len r; simp only [Rows.uptoBulkAll, List.length_cons]; omega
theorem bulk_mem {H : Type} {d : DataW H} : ∀ {l : List (DataW H)}, d ∈ l → Rows.uptoBulk d ≤ Rows.uptoBulkAll l
  | x :: r, h => by
    simp only [Rows.uptoBulkAll]
    rcases List.mem_cons.1 h with rfl | h
    · omega
    · have := bulk_mem h; omega
theorem bulk_slice {H : Type} {elems spare : List (DataW H)} {ds : List (DataW H)} (hm : DataW.slice elems spare ∈ ds) (hk : Rows.uptoSmall H ds = true) : elems.length ≤ 1048576 := by
  have h1 := bulk_mem hm
  have h2 := bulk_len elems
  have h3 : Rows.uptoBulkAll ds ≤ 1048576 := of_decide_eq_true hk
  simp only [Rows.uptoBulk] at h1
  omega
theorem bulk_rows {H : Type} {d : DataW H} {ds : List (DataW H)} {len cap : Nat} (hm : d ∈ ds) (hk : Rows.uptoSmall H ds = true)
    (hd : (d = .nil ∧ len = 0) ∨ ∃ elems spare, d = .slice elems spare ∧ elems.length = len ∧ elems.length + spare.length = cap) : len ≤ 1048576 := by
  rcases hd with ⟨_, rfl⟩ | ⟨elems, spare, rfl, rfl, _⟩
  · omega
  · exact bulk_slice hm hk
theorem bulk_agg {H : Type} {parts : List (DataW H)} (hk : Rows.uptoSmall H [.agg parts] = true) : Rows.uptoSmall H parts = true := by
  have h : Rows.uptoBulkAll [DataW.agg parts] ≤ 1048576 := of_decide_eq_true hk
  simp only [Rows.uptoBulkAll, Rows.uptoBulk] at h
  exact decide_eq_true (by omega)
end Go.Proofs.Ytfcmjddpoacenaa
