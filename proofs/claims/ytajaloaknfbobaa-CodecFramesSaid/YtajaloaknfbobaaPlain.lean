/- Layer 1: what is laid is read, what is read is what would be laid. No program in sight. -/
import Derived.Test.YtajaloaknfbobaaW12
set_option linter.unusedVariables false
set_option linter.unusedSimpArgs false
namespace Go.Proofs.Ytajaloaknfbobaa
open Go.Gx Go.Gx.Cod Go.RowKit
theorem pow_next (i : Nat) : 2 ^ (7 * (i + 1)) = 128 * 2 ^ (7 * i) := by
  rw [show 7 * (i + 1) = 7 * i + 7 by omega, Nat.pow_add]; omega
theorem ofNat_lo {n : Nat} (h : n < 256) : (UInt8.ofNat n).toNat = n := by simp; omega
theorem numM_enc : ∀ (n i acc : Nat) (rest : List UInt8), i ≤ 9 → n < 2 ^ (64 - 7 * i) → (i = 0 ∨ 0 < n) → numM (enc n ++ rest) i acc = ((enc n).length, 0, acc + n * 2 ^ (7 * i)) := by
  intro n
  induction n using Nat.strongRecOn with
  | _ n ih =>
    intro i acc rest hi hn hz
    by_cases hlo : n < 128
    · rw [enc_lo hlo]
      have hc : (UInt8.ofNat n).toNat = n := ofNat_lo (by omega)
      have hA : ¬ (i = 9 ∧ 1 < (UInt8.ofNat n).toNat) := by
        rw [hc]
        rintro ⟨rfl, h⟩
        simp at hn
        omega
      show numM (UInt8.ofNat n :: rest) i acc = _
      rw [numM_B2 hA (by rw [hc]; exact hlo) (by rw [hc]; omega), hc, Nat.mod_eq_of_lt hlo]
      rfl
    · obtain ⟨h9, hm⟩ := num_step hi hn hlo
      rw [enc_hi hlo]
      have hc : (UInt8.ofNat (n % 128 + 128)).toNat = n % 128 + 128 := ofNat_lo (by omega)
      have hA : ¬ (i = 9 ∧ 1 < (UInt8.ofNat (n % 128 + 128)).toNat) := by omega
      show numM (UInt8.ofNat (n % 128 + 128) :: (enc (n / 128) ++ rest)) i acc = _
      rw [numM_C hA (by rw [hc]; omega), hc, ih (n / 128) (by omega) (i + 1) _ rest (by omega) hm (.inr (by omega))]
      have e1 : (n % 128 + 128) % 128 = n % 128 := by omega
      have e2 : n / 128 * (128 * 2 ^ (7 * i)) + n % 128 * 2 ^ (7 * i) = n * 2 ^ (7 * i) := by
        rw [← Nat.mul_assoc, ← Nat.add_mul]; congr 1; omega
      rw [e1, pow_next]
      simp only [List.length_cons, Prod.mk.injEq, true_and]
      omega
theorem numM_enc0 {n : Nat} (h : n < 18446744073709551616) (rest : List UInt8) : numM (enc n ++ rest) 0 0 = ((enc n).length, 0, n) := by
  rw [numM_enc n 0 0 rest (by omega) (by show n < 2 ^ 64; omega) (.inl rfl)]
  simp
theorem numM_dec : ∀ (l : List UInt8) (i acc m v : Nat), i ≤ 9 → numM l i acc = (m, 0, v) → ∃ w, v = acc + w * 2 ^ (7 * i) ∧ w < 2 ^ (64 - 7 * i) ∧ 1 ≤ m ∧ l.take m = enc w ∧ (i = 0 ∨ 0 < w)
  | [], i, acc, m, v, _, h => by simp [numM] at h
  | c :: t, i, acc, m, v, hi, h => by
    have hcl := c.toNat_lt
    have hco : UInt8.ofNat c.toNat = c := by simp
    by_cases hA : i = 9 ∧ 1 < c.toNat
    · rw [numM_A hA] at h; simp at h
    · by_cases hB : c.toNat < 128
      · by_cases hC : c.toNat = 0 ∧ 0 < i
        · rw [numM_B1 hA hB hC] at h; simp at h
        · rw [numM_B2 hA hB hC] at h
          simp only [Prod.mk.injEq, true_and] at h
          obtain ⟨rfl, rfl⟩ := h
          refine ⟨c.toNat, by rw [Nat.mod_eq_of_lt hB], ?_, by omega, ?_, by omega⟩
          · have : i = 0 ∨ i = 1 ∨ i = 2 ∨ i = 3 ∨ i = 4 ∨ i = 5 ∨ i = 6 ∨ i = 7 ∨ i = 8 ∨ i = 9 := by omega
            rcases this with rfl | rfl | rfl | rfl | rfl | rfl | rfl | rfl | rfl | rfl <;> simp only [Nat.reduceMul, Nat.reducePow, Nat.reduceSub] <;> omega
          · rw [enc_lo hB, hco]; rfl
      · have hlt9 : i < 9 := by
          by_cases h9 : i = 9
          · exact absurd ⟨h9, by omega⟩ hA
          · omega
        rw [numM_C hA hB] at h
        rcases hr : numM t (i + 1) (acc + c.toNat % 128 * 2 ^ (7 * i)) with ⟨m', e', v'⟩
        rw [hr] at h
        simp only [Prod.mk.injEq] at h
        obtain ⟨rfl, rfl, rfl⟩ := h
        obtain ⟨w, hv, hw, h1, ht, hz⟩ := numM_dec t (i + 1) _ m' v' (by omega) hr
        have hw0 : 0 < w := by omega
        refine ⟨c.toNat % 128 + 128 * w, ?_, ?_, by omega, ?_, by omega⟩
        · rw [hv, pow_next, Nat.add_mul, Nat.mul_comm 128 w, Nat.mul_assoc]; omega
        · have : i = 0 ∨ i = 1 ∨ i = 2 ∨ i = 3 ∨ i = 4 ∨ i = 5 ∨ i = 6 ∨ i = 7 ∨ i = 8 := by omega
          rcases this with rfl | rfl | rfl | rfl | rfl | rfl | rfl | rfl | rfl <;> simp only [Nat.reduceMul, Nat.reducePow, Nat.reduceSub, Nat.reduceAdd] at * <;> omega
        · rw [enc_hi (by omega), List.take_succ_cons, ht]
          have e1 : (c.toNat % 128 + 128 * w) % 128 + 128 = c.toNat := by omega
          have e2 : (c.toNat % 128 + 128 * w) / 128 = w := by omega
          rw [e1, e2, hco]
theorem numM_dec0 {l : List UInt8} {m v : Nat} (h : numM (l.drop 0) 0 0 = (m, 0, v)) : v < 18446744073709551616 ∧ 1 ≤ m ∧ m ≤ l.length ∧ enc v = l.take m := by
  rw [List.drop_zero] at h
  obtain ⟨w, hv, hw, h1, ht, _⟩ := numM_dec l 0 0 m v (by omega) h
  simp only [Nat.zero_add, Nat.mul_zero, Nat.pow_zero, Nat.mul_one] at hv
  subst hv
  refine ⟨by simpa using hw, h1, ?_, ht.symm⟩
  have := numM_le l 0 0
  rw [h] at this
  exact this
theorem numM_er : ∀ (l : List UInt8) (i n : Nat), 0 ≤ (numM l i n).2.1 ∧ (numM l i n).2.1 ≤ 11
  | [], _, _ => ⟨(by show (0:Int) ≤ 3; decide), (by show (3:Int) ≤ 11; decide)⟩
  | c :: t, i, n => by
    by_cases hA : i = 9 ∧ 1 < c.toNat
    · rw [numM_A hA]; decide
    · by_cases hB : c.toNat < 128
      · by_cases hC : c.toNat = 0 ∧ 0 < i
        · rw [numM_B1 hA hB hC]; decide
        · rw [numM_B2 hA hB hC]; exact ⟨Int.le_refl 0, (by decide : (0:Int) ≤ 11)⟩
      · rw [numM_C hA hB]
        exact numM_er t (i + 1) _
end Go.Proofs.Ytajaloaknfbobaa
