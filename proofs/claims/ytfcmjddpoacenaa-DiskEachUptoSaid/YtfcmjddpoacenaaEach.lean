/- Layer 2: the blocks that are not empty, with their numbers. No program in sight. -/
import Derived.Test.YtfcmjddpoacenaaModel
set_option linter.unusedVariables false
set_option linter.unusedSimpArgs false
namespace Go.Gx.Dsk
open Go.Gx Go.RowKit
abbrev IB := Int × ByteArray
/-- the blocks that are not empty, from number i on -/
def nz : List ByteArray → Nat → List IB
  | [], _ => []
  | b :: l, i => if sEq b bmt then nz l (i + 1) else ((i : Int), b) :: nz l (i + 1)
/-- where one goes on behind those -/
def nxt (i : Nat) (pre : List IB) : Nat := match pre.getLast? with | none => i | some x => x.1.toNat + 1
theorem nxt_nil (i : Nat) : nxt i [] = i := rfl
theorem nxt_snoc (i : Nat) (pre : List IB) (x : IB) : nxt i (pre ++ [x]) = x.1.toNat + 1 := by simp [nxt]
theorem nxt_cons (i : Nat) (b : ByteArray) (pre : List IB) : nxt i (((i : Int), b) :: pre) = nxt (i + 1) pre := by
  cases pre with
  | nil => simp [nxt]
  | cons y pre =>
    unfold nxt
    rw [List.getLast?_cons_cons]
    cases h : (y :: pre).getLast? with
    | none => simp at h
    | some z => rfl
theorem nxt_up {i : Nat} {pre : List IB} (h : pre ≠ []) : nxt i pre = nxt (i + 1) pre := by
  unfold nxt
  cases h1 : pre.getLast? with
  | none => simp at h1; exact absurd h1 h
  | some x => rfl
theorem nz_split : ∀ (l : List ByteArray) (i : Nat) (pre : List IB) (x : IB) (post : List IB), nz l i = pre ++ x :: post →
    ∃ k, x.1 = ((i + k : Nat) : Int) ∧ l[k]? = some x.2 ∧ sEq x.2 bmt = false ∧ i ≤ nxt i pre ∧ nxt i pre ≤ i + k ∧ ∀ m, nxt i pre ≤ i + m → m < k → l[m]? = some bmt
  | [], i, pre, x, post, h => by simp [nz] at h
  | b :: l, i, pre, x, post, h => by
    cases hb : sEq b bmt with
    | true =>
      have hbb := sEq_iff.1 hb
      simp only [nz, hb, if_true] at h
      obtain ⟨k, h1, h2, h3, h4, h5, h6⟩ := nz_split l (i + 1) pre x post h
      refine ⟨k + 1, by rw [h1]; congr 1; omega, by simpa using h2, h3, ?_, ?_, fun m hm hk => ?_⟩
      · cases pre with
        | nil => exact Nat.le_refl _
        | cons y pre => rw [nxt_up (by simp)]; omega
      · cases pre with
        | nil => simp [nxt]
        | cons y pre => rw [nxt_up (by simp)]; omega
      · cases m with
        | zero => simp [hbb]
        | succ m =>
          have : (b :: l)[m + 1]? = l[m]? := by simp
          rw [this]
          refine h6 m ?_ (by omega)
          cases pre with
          | nil => simp [nxt]
          | cons y pre => rw [nxt_up (by simp)] at hm; omega
    | false =>
      simp only [nz, hb] at h
      cases pre with
      | nil =>
        simp at h
        obtain ⟨rfl, _⟩ := h
        exact ⟨0, rfl, by simp, hb, Nat.le_refl _, Nat.le_refl _, fun m _ h => absurd h (by omega)⟩
      | cons y pre =>
        simp at h
        obtain ⟨rfl, h⟩ := h
        obtain ⟨k, h1, h2, h3, h4, h5, h6⟩ := nz_split l (i + 1) pre x post h
        rw [nxt_cons]
        refine ⟨k + 1, by rw [h1]; congr 1; omega, by simpa using h2, h3, by omega, by omega, fun m hm hk => ?_⟩
        cases m with
        | zero => omega
        | succ m =>
          have : (b :: l)[m + 1]? = l[m]? := by simp
          rw [this]
          exact h6 m (by omega) (by omega)
theorem nz_end : ∀ (l : List ByteArray) (i : Nat), i ≤ nxt i (nz l i) ∧ nxt i (nz l i) ≤ i + l.length ∧ ∀ m, nxt i (nz l i) ≤ i + m → m < l.length → l[m]? = some bmt
  | [], i => ⟨Nat.le_refl _, Nat.le_refl _, fun m _ h => by simp at h⟩
  | b :: l, i => by
    obtain ⟨h1, h2, h3⟩ := nz_end l (i + 1)
    cases hb : sEq b bmt with
    | true =>
      have hbb := sEq_iff.1 hb
      simp only [nz, hb, if_true, List.length_cons]
      by_cases he : nz l (i + 1) = []
      · rw [he] at h1 h2 h3 ⊢
        simp only [nxt_nil] at *
        refine ⟨Nat.le_refl _, by omega, fun m hm hk => ?_⟩
        cases m with
        | zero => simp [hbb]
        | succ m => have : (b :: l)[m + 1]? = l[m]? := by simp
                    rw [this]; exact h3 m (by omega) (by omega)
      · rw [nxt_up he]
        refine ⟨by omega, by omega, fun m hm hk => ?_⟩
        cases m with
        | zero => simp [hbb]
        | succ m => have : (b :: l)[m + 1]? = l[m]? := by simp
                    rw [this]; exact h3 m (by omega) (by omega)
    | false =>
      simp only [nz, hb, List.length_cons]
      simp only [Bool.false_eq_true, if_false]
      rw [nxt_cons]
      refine ⟨by omega, by omega, fun m hm hk => ?_⟩
      cases m with
      | zero => omega
      | succ m => have : (b :: l)[m + 1]? = l[m]? := by simp
                  rw [this]; exact h3 m (by omega) (by omega)
theorem nz_len : ∀ (l : List ByteArray) (i : Nat), (nz l i).length ≤ l.length
  | [], i => Nat.le_refl _
  | b :: l, i => by
    have := nz_len l (i + 1)
    unfold nz
    split <;> simp <;> omega
/-- the first k blocks -/
theorem nz_take : ∀ (l : List ByteArray) (i k : Nat) (b : ByteArray), l[k]? = some b → nz (l.take (k + 1)) i = nz (l.take k) i ++ (if sEq b bmt then [] else [(((i + k : Nat) : Int), b)])
  | [], i, k, b, h => by simp at h
  | c :: l, i, 0, b, h => by
    simp at h
    subst h
    simp [nz]
  | c :: l, i, k + 1, b, h => by
    have h' : l[k]? = some b := by simpa using h
    have ih := nz_take l (i + 1) k b h'
    simp only [List.take_succ_cons, nz]
    rw [ih, show i + 1 + k = i + (k + 1) by omega]
    cases hc : sEq c bmt <;> simp
theorem nz_at : ∀ (l : List ByteArray) (i k : Nat) (b : ByteArray), l[k]? = some b → sEq b bmt = false → ∃ post, nz l i = nz (l.take k) i ++ (((i + k : Nat) : Int), b) :: post
  | [], i, k, b, h, hb => by simp at h
  | c :: l, i, 0, b, h, hb => by
    simp at h
    subst h
    exact ⟨nz l (i + 1), by simp [nz, hb]⟩
  | c :: l, i, k + 1, b, h, hb => by
    have h' : l[k]? = some b := by simpa using h
    obtain ⟨post, ih⟩ := nz_at l (i + 1) k b h' hb
    refine ⟨post, ?_⟩
    simp only [List.take_succ_cons, nz]
    rw [ih, show i + 1 + k = i + (k + 1) by omega]
    cases hc : sEq c bmt <;> simp
end Go.Gx.Dsk
