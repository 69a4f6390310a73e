/- What the tables of this translation say of the types that the walks meet. -/
import Derived.Test.YtajconlnacbmjaaRows
import Derived.Test.YtajconlnacbmjaaModel
import Derived.Laws.StructEq
set_option linter.unusedVariables false
set_option linter.unusedSimpArgs false
namespace Go.Proofs.Ytajconlnacbmjaa
open Go.Gx Go.Gx.Net
theorem T3 : tI Try.prog 3 = some (false, 1) := by kernel_rfl
theorem T4 : tI Try.prog 4 = some (false, 1) := by kernel_rfl
theorem T9 : tI Try.prog 9 = some (false, 1) := by kernel_rfl
theorem T30 : tI Try.prog 30 = some (false, 1) := by kernel_rfl
theorem T27 : tI Try.prog 27 = some (false, 1) := by kernel_rfl
theorem T51 : tI Try.prog 51 = some (false, 1) := by kernel_rfl
theorem T35 : tI Try.prog 35 = some (true, 5) := by kernel_rfl
theorem T29 : tI Try.prog 29 = some (true, 5) := by kernel_rfl
theorem T63 : tI Try.prog 63 = some (true, 30) := by kernel_rfl
theorem T49 : tI Try.prog 49 = some (true, 30) := by kernel_rfl
theorem Z35 : zI Try.prog 35 = some (.agg (List.toArray [.int .i64 0, .int .i64 0, .int .i64 0, .string ⟨#[]⟩, .int .i64 0])) := by kernel_rfl
theorem Z29 : zI Try.prog 29 = some (.agg (List.toArray [.int .i64 0, .int .i64 0, .int .i64 0, .string ⟨#[]⟩, .bool false])) := by kernel_rfl
theorem S27 : sI Try.prog 27 = some (35, .agg #[.int .i64 0, .int .i64 0, .int .i64 0, .string ⟨#[]⟩, .int .i64 0], 5, 48) := by kernel_rfl
theorem S51 : sI Try.prog 51 = some (3, .int .i64 0, 1, 8) := by kernel_rfl
theorem G35 : Try.prog.eqGuardType Try.prog.depth 35 = false := by kernel_rfl
set_option maxHeartbeats 1000000 in
theorem eq35 (d : Nat) (l m : Pk) (w : World) : (Op.equalIn (d + 2) 35 (.agg l.cells.toArray) (.agg m.cells.toArray)).run Try.prog w = .ok (l.beq m) w := by
  obtain ⟨a, b, c, t, f⟩ := l
  obtain ⟨a', b', c', t', f'⟩ := m
  simp only [Pk.cells]
  go_simp
  unfold Pk.beq sEq
  repeat' split
  all_goals simp_all
end Go.Proofs.Ytajconlnacbmjaa
namespace Go.Gx
theorem Hp.some_of {w0 w : World} {D : Nat → Prop} {L : List Ent} (H : Hp w0 D L w) {i : Nat} {x : Ent} (hi : L[i]? = some x) (h : 0 < x.xs.length) : ∃ b, x.a = some b := by
  have := H.ents i x hi
  unfold Ent.at at this
  cases hx : x.a with
  | none => rw [hx] at this; have h0 := this.1; rw [h0] at h; simp at h
  | some b => exact ⟨b, rfl⟩
end Go.Gx
namespace Go.Gx
theorem Hp.short {w0 w : World} {D : Nat → Prop} {L : List Ent} (H : Hp w0 D L w) (i : Nat) {x : Ent} (hi : L[i]? = some x) (m : Nat) : Hp w0 D (L.set i ⟨x.a, x.xs.take m, x.e, x.N⟩) w := by
  refine H.upd hi rfl rfl rfl (Nat.le_refl _) (fun _ _ _ => rfl) ?_ (.inl rfl)
  have h := H.ents i x hi
  unfold Ent.at at h ⊢
  cases hx : x.a with
  | none => rw [hx] at h; simp only [] at h ⊢; rw [h.1, h.2]; simp
  | some b =>
    rw [hx] at h
    simp only [] at h ⊢
    obtain ⟨cur, h1, h2, h3⟩ := h
    refine ⟨cur, h1, h2, ?_⟩
    have e : x.xs.take m = (cur.toList.take x.xs.length).take m := by rw [h3]
    rw [e, List.take_take, List.length_take, ← List.take_take, List.take_length]
end Go.Gx
namespace Go.Gx.Net
theorem rows_erase {l : List Pk} {k o : Nat} (hk : k < l.length) (ho : o = (k + 1) * 5 ∨ l.length = k + 1) :
    (lay (rows l) (k * 5) (((rows l).drop o).take (min (l.length - (k + 1)) (l.length - k) * 5))).take ((l.length - 1) * 5) = rows (l.eraseIdx k) := by
  have hm : min (l.length - (k + 1)) (l.length - k) = l.length - (k + 1) := by omega
  have e : ((rows l).drop o).take ((l.length - (k + 1)) * 5) = rows (l.drop (k + 1)) := by
    rcases ho with rfl | h
    · rw [rows_drop, List.take_of_length_le]
      rw [rows_length]; simp
    · rw [show l.length - (k + 1) = 0 by omega, Nat.zero_mul, List.take_zero, List.drop_of_length_le (by omega)]; rfl
  rw [hm, e, List.eraseIdx_eq_take_drop_succ, rows_append]
  unfold lay
  rw [rows_take]
  exact List.take_left' (by simp [rows_length]; omega)
end Go.Gx.Net
