/- What functions of layer 1 compute. -/
import Derived.Test.YtajaloaknfbobaaW20
import Derived.Test.YtajaloaknfbobaaGxBs4
import Derived.Test.YtajaloaknfbobaaGxApS2
import Derived.WalkKit
import Derived.WalkLawsBesides
import Derived.Lib.Hide
import Derived.Deep.LoopGhost
import Derived.WalkSpells
set_option linter.unusedVariables false
set_option linter.unusedSimpArgs false
namespace Go.Proofs.Ytajaloaknfbobaa
open Go.RowKit Go.Gx Go.Gx.Cod
set_option maxRecDepth 100000

theorem shr16 (x : UInt32) : x >>> 16 = x >>> 8 >>> 8 := by
  apply UInt32.toNat_inj.1
  simp [UInt32.toNat_shiftRight, ← Nat.shiftRight_add]
theorem shr24 (x : UInt32) : x >>> 24 = x >>> 8 >>> 8 >>> 8 := by
  apply UInt32.toNat_inj.1
  simp [UInt32.toNat_shiftRight, ← Nat.shiftRight_add]
theorem rbshr16 {X Z : UInt32} (h : X >>> 16 = Z) : bitop .shr .u32 (X.toNat : Int) 16 = some (Z.toNat : Int) := by subst h; exact bshr32 X 16 (by decide)
theorem rbshr24 {X Z : UInt32} (h : X >>> 24 = Z) : bitop .shr .u32 (X.toNat : Int) 24 = some (Z.toNat : Int) := by subst h; exact bshr32 X 24 (by decide)
theorem put4 (l : List UInt8) (q0 q1 q2 q3 : UInt8) : bs l ++ ([Value.int .u8 (q0.toNat : Int), .int .u8 (q1.toNat : Int), .int .u8 (q2.toNat : Int), .int .u8 (q3.toNat : Int)].drop 0).take (4 * 1) = bs (l ++ [q0, q1, q2, q3]) := by simp [bs, byteV]
theorem rPutNum_nil {w0 w : World} {D : Nat → Prop} {R : List Ent} (H : Hp w0 D R w) {n : Nat} (hn : n < 18446744073709551616) : Calls Try.prog 16 #[.slice none 0 0, .int .u64 (n : Int)] w fun e w' => ∃ a' c', e = .returned (.slice (adr a' 0) (enc n).length c') ∧ Hp w0 D (eB a' c' (enc n) :: R) w' :=
  rPutNum_spec (x := none) (c := 0) (l := []) H nil_rd (Nat.zero_le _) hn
set_option maxHeartbeats 4000000 in
theorem rSeal_ok {w0 w : World} {D : Nat → Prop} {R : List Ent} {x : Option Addr} {c : Nat} {l : List UInt8} (H : Hp w0 D (R) w) (hX : Rd w0 D R x (bs l)) (hl : l.length ≤ 4096) :
    Calls Try.prog 28 #[.slice x l.length c] w fun e w' => ∃ a' c', e = .returned (.tuple #[.slice (adr a' 0) (seal_ l).length c', .int .i64 0]) ∧ Hp w0 D (eB a' c' (seal_ l) :: R) w' := by
  have HX := Lib.hid hX
  obtain ⟨z, hz⟩ : ∃ z, crc l = z := ⟨_, rfl⟩
  have HCZ := Lib.hid hz
  obtain ⟨z1, hz1⟩ : ∃ y, z >>> 8 = y := ⟨_, rfl⟩
  obtain ⟨z2, hz2⟩ : ∃ y, z >>> 16 = y := ⟨_, rfl⟩
  obtain ⟨z3, hz3⟩ : ∃ y, z >>> 24 = y := ⟨_, rfl⟩
  obtain ⟨q0, hq0⟩ : ∃ q, z.toUInt8 = q := ⟨_, rfl⟩
  obtain ⟨q1, hq1⟩ : ∃ q, z1.toUInt8 = q := ⟨_, rfl⟩
  obtain ⟨q2, hq2⟩ : ∃ q, z2.toUInt8 = q := ⟨_, rfl⟩
  obtain ⟨q3, hq3⟩ : ∃ q, z3.toUInt8 = q := ⟨_, rfl⟩
  have hse : enc l.length ++ l ++ [q0, q1, q2, q3] = seal_ l := (by rw [seal_, hz, sum4, ← hq0, ← hq1, ← hq2, ← hq3, ← hz1, ← hz2, ← hz3, shr16, shr24])
  have HSE := Lib.hid hse
  have hsl := seal_len l
  have HSL := Lib.hid hsl
  have hel : (enc l.length).length ≤ 10 := enc_len_le (by omega)
  have HZ1 := Lib.hid hz1
  have HZ2 := Lib.hid hz2
  have HZ3 := Lib.hid hz3
  have HQ0 := Lib.hid hq0
  have HQ1 := Lib.hid hq1
  have HQ2 := Lib.hid hq2
  have HQ3 := Lib.hid hq3
  clear hX hz hse hz1 hz2 hz3 hq0 hq1 hq2 hq3 hsl
  try simp only [eR, eB] at H
  try simp only [eR, eB]
  go_enter Try.func28, Try.ntmps28
  go_wp2_with (first
    | ((with_reducible refine gCv ?_); refine wl_cvI rfl Try.underlying3 Try.underlying33 (by first | with_reducible exact conv_u64 (by omega) (by omega)) rfl ?_)
    | ((with_reducible refine gCv ?_); refine wl_cvI rfl Try.underlying23 Try.underlying5 (by first | with_reducible exact conv32Q HQ0.out | with_reducible exact conv32Q HQ1.out | with_reducible exact conv32Q HQ2.out | with_reducible exact conv32Q HQ3.out) rfl ?_)
    | ((with_reducible refine gEq ?_); refine wl_bit rfl rfl (by first | exact .inl rfl | exact .inr (.inl rfl) | exact .inr (.inr rfl)) (by first | with_reducible exact bshr8 HZ1.out | with_reducible exact rbshr16 HZ2.out | with_reducible exact rbshr24 HZ3.out) rfl ?_)
    | (go_at_call 16; (with_reducible refine (rPutNum_nil (n := l.length) H (by omega)).mono ?_); rintro e w1 ⟨a1, c1, rfl, H1⟩; clear H; have H := H1; clear H1)
    | ((with_reducible refine gAp ?_); refine wl_appendC 0 (news := bs l) rfl H rfl rfl rfl S22 (by decide) (Or.inl rfl) (bs_length _) (Nat.mul_one _).symm (fun h => by have h9 := HX.out.nil h; simpa [bs] using h9) ?_ (bs_one _) (HX.out.news [_] H) ?_ ?_ ?_; (· (rw [bs_length])); (· (unfold maxLen; omega)); (· omega); clear H; intro a2 c2 w1 H h0; clear h0; simp only [List.set_cons_zero, List.set_cons_succ, Nat.mul_one, ← bs_append] at H)
    | (go_at_call 33; (with_reducible refine (rSum_spec H (HX.out.cons _) (by omega) HCZ.out).mono ?_); rintro e w1 ⟨rfl, H1⟩; clear H; have H := H1; clear H1)
    | ((with_reducible refine gBs ?_); refine wl_bytes4 (v0 := (q0.toNat : Int)) (v1 := (q1.toNat : Int)) (v2 := (q2.toNat : Int)) (v3 := (q3.toNat : Int)) rfl rfl rfl rfl rfl S22 H ?_; clear H; intro b4 w1 H)
    | ((with_reducible refine gAp ?_); refine wl_append 1 0 (n := (enc l.length).length + l.length) rfl H rfl rfl rfl rfl S22 (by decide) (Or.inl rfl) (by rw [bs_length, List.length_append]) (Nat.mul_one _).symm (fun h => by cases h) (Nat.le_of_ble_eq_true rfl) rfl (by unfold maxLen; omega) (by omega) ?_; clear H; intro a4 c4 w1 H h0; clear h0; simp only [List.set_cons_zero, List.set_cons_succ, Nat.mul_one] at H; replace H := H.drop; first | rw [put4] at H | (simp only [List.drop_zero, List.take_succ_cons, List.take_zero] at H))
    | ((with_reducible refine gLd ?_); refine eLd H rfl rfl ?_; first | (refine kLdB 0 rfl rfl (by first | exact T3 | exact T5 | exact T22 | exact T23 | exact T24 | exact T33 | exact T38 | exact T9 | exact T2 | exact T4 | exact T54 | exact T69 | exact T66 | exact T72) rfl ?_; intro rb hrb; cases rb <;> (first | (exfalso; simp at hrb; done) | ((try simp only [decide_eq_true_eq, decide_eq_false_iff_not, beq_iff_eq, beq_eq_false_iff_ne, ne_eq, bne_iff_ne, bne_eq_false_iff_eq, Bool.not_eq_true', Bool.not_eq_false', gt_iff_lt, ge_iff_le, Int.not_lt, Int.not_le, Decidable.not_not] at hrb); (try subst hrb); (try (exfalso; omega))))) | (refine kLdB 1 rfl rfl (by first | exact T3 | exact T5 | exact T22 | exact T23 | exact T24 | exact T33 | exact T38 | exact T9 | exact T2 | exact T4 | exact T54 | exact T69 | exact T66 | exact T72) rfl ?_; intro rb hrb; cases rb <;> (first | (exfalso; simp at hrb; done) | ((try simp only [decide_eq_true_eq, decide_eq_false_iff_not, beq_iff_eq, beq_eq_false_iff_ne, ne_eq, bne_iff_ne, bne_eq_false_iff_eq, Bool.not_eq_true', Bool.not_eq_false', gt_iff_lt, ge_iff_le, Int.not_lt, Int.not_le, Decidable.not_not] at hrb); (try subst hrb); (try (exfalso; omega))))) | (refine kLd 0 rfl rfl (by first | exact T3 | exact T5 | exact T22 | exact T23 | exact T24 | exact T33 | exact T38 | exact T9 | exact T2 | exact T4 | exact T54 | exact T69 | exact T66 | exact T72) rfl ?_) | (refine kLd 1 rfl rfl (by first | exact T3 | exact T5 | exact T22 | exact T23 | exact T24 | exact T33 | exact T38 | exact T9 | exact T2 | exact T4 | exact T54 | exact T69 | exact T66 | exact T72) rfl ?_) | (refine kLdA 0 rfl rfl (by first | exact T3 | exact T5 | exact T22 | exact T23 | exact T24 | exact T33 | exact T38 | exact T9 | exact T2 | exact T4 | exact T54 | exact T69 | exact T66 | exact T72) (Nat.le_of_ble_eq_true rfl) (by simp only [eR, eB, List.drop_succ_cons, List.drop_zero, List.take_succ_cons, List.take_zero, List.set_cons_zero, List.set_cons_succ]; rfl) ?_) | (refine kLdA 1 rfl rfl (by first | exact T3 | exact T5 | exact T22 | exact T23 | exact T24 | exact T33 | exact T38 | exact T9 | exact T2 | exact T4 | exact T54 | exact T69 | exact T66 | exact T72) (Nat.le_of_ble_eq_true rfl) (by simp only [eR, eB, List.drop_succ_cons, List.drop_zero, List.take_succ_cons, List.take_zero, List.set_cons_zero, List.set_cons_succ]; rfl) ?_))
    | ((with_reducible refine gSt ?_); (first | (refine eSt H rfl rfl ⟨.int _ _, rfl, ?_⟩) | (refine eSt H rfl rfl ⟨.bool _, rfl, ?_⟩) | (refine eSt H rfl rfl ⟨.slice _ _ _, rfl, ?_⟩) | (refine eSt H rfl rfl ⟨.pointer _, rfl, ?_⟩) | (refine eSt H rfl rfl ⟨.string _, rfl, ?_⟩) | (refine eSt H rfl rfl ⟨.agg (List.toArray _), rfl, ?_⟩)); (first | (refine kSt 0 rfl rfl (by first | exact T3 | exact T5 | exact T22 | exact T23 | exact T24 | exact T33 | exact T38 | exact T9 | exact T2 | exact T4 | exact T54 | exact T69 | exact T66 | exact T72) rfl (Nat.le_of_ble_eq_true rfl) ?_) | (refine kSt 1 rfl rfl (by first | exact T3 | exact T5 | exact T22 | exact T23 | exact T24 | exact T33 | exact T38 | exact T9 | exact T2 | exact T4 | exact T54 | exact T69 | exact T66 | exact T72) rfl (Nat.le_of_ble_eq_true rfl) ?_) | (refine kStA 0 rfl rfl (by first | exact T3 | exact T5 | exact T22 | exact T23 | exact T24 | exact T33 | exact T38 | exact T9 | exact T2 | exact T4 | exact T54 | exact T69 | exact T66 | exact T72) rfl rfl (Nat.le_of_ble_eq_true rfl) ?_) | (refine kStA 1 rfl rfl (by first | exact T3 | exact T5 | exact T22 | exact T23 | exact T24 | exact T33 | exact T38 | exact T9 | exact T2 | exact T4 | exact T54 | exact T69 | exact T66 | exact T72) rfl rfl (Nat.le_of_ble_eq_true rfl) ?_)); clear H; intro w1 H; simp only [List.set_cons_zero, List.set_cons_succ] at H; (try simp only [lay, List.take_zero, List.nil_append, List.length_cons, List.length_nil, Nat.zero_add, Nat.reduceAdd, List.drop_succ_cons, List.drop_zero, List.drop_nil, List.append_nil, List.take_succ_cons, List.cons_append] at H))
    | ((with_reducible refine gBx ?_); refine bxA H rfl rfl rfl ?_; clear H; intro b1 w1 H)
    | ((with_reducible refine gBs ?_); (first | (refine bs1 H rfl (by first | exact S22 | exact S54 | exact S61) rfl (Nat.le_of_ble_eq_true rfl) (Nat.le_of_ble_eq_true rfl) rfl ?_) | (refine wl_buildSlice0 rfl (by first | exact S22 | exact S54 | exact S61) H ?_)); clear H; intro b1 w1 H)
    | ((with_reducible refine gEq ?_); (first | (refine wl_cmp rfl rfl rfl rfl ?_) | (refine wl_scmp rfl rfl rfl rfl ?_)); intro rb hrb; cases rb <;> (first | (exfalso; simp at hrb; done) | ((try simp only [decide_eq_true_eq, decide_eq_false_iff_not, beq_iff_eq, beq_eq_false_iff_ne, ne_eq, bne_iff_ne, bne_eq_false_iff_eq, Bool.not_eq_true', Bool.not_eq_false', gt_iff_lt, ge_iff_le, Int.not_lt, Int.not_le, Decidable.not_not] at hrb); (try subst hrb); (try (exfalso; omega)))))
    | ((with_reducible refine gRg ?_); refine wp_region_text rfl (by decide +kernel) ?_; replace H := H.drew)
    | ((with_reducible refine EndQ.intro ?_ ?_); (· kernel_rfl)))
  go_ret2
  rw [HSE.out] at H
  exact ⟨a4, c4, by rw [HSL.out]; rfl, H⟩
set_option maxHeartbeats 4000000 in
theorem rSeal_bad {w0 w : World} {D : Nat → Prop} {R : List Ent} {x : Option Addr} {c n : Nat} (H : Hp w0 D (R) w) (hl : 4096 < n) (hn : n ≤ 140737488355328) :
    Calls Try.prog 28 #[.slice x n c] w fun e w' => e = .returned (.tuple #[.slice none 0 0, .int .i64 1]) ∧ Hp w0 D R w' := by
  try simp only [eR, eB] at H
  try simp only [eR, eB]
  go_enter Try.func28, Try.ntmps28
  go_wp2_with (first
    | ((with_reducible refine gLd ?_); refine eLd H rfl rfl ?_; first | (refine kLdB 0 rfl rfl (by first | exact T3 | exact T5 | exact T22 | exact T23 | exact T24 | exact T33 | exact T38 | exact T9 | exact T2 | exact T4 | exact T54 | exact T69 | exact T66 | exact T72) rfl ?_; intro rb hrb; cases rb <;> (first | (exfalso; simp at hrb; done) | ((try simp only [decide_eq_true_eq, decide_eq_false_iff_not, beq_iff_eq, beq_eq_false_iff_ne, ne_eq, bne_iff_ne, bne_eq_false_iff_eq, Bool.not_eq_true', Bool.not_eq_false', gt_iff_lt, ge_iff_le, Int.not_lt, Int.not_le, Decidable.not_not] at hrb); (try subst hrb); (try (exfalso; omega))))) | (refine kLdB 1 rfl rfl (by first | exact T3 | exact T5 | exact T22 | exact T23 | exact T24 | exact T33 | exact T38 | exact T9 | exact T2 | exact T4 | exact T54 | exact T69 | exact T66 | exact T72) rfl ?_; intro rb hrb; cases rb <;> (first | (exfalso; simp at hrb; done) | ((try simp only [decide_eq_true_eq, decide_eq_false_iff_not, beq_iff_eq, beq_eq_false_iff_ne, ne_eq, bne_iff_ne, bne_eq_false_iff_eq, Bool.not_eq_true', Bool.not_eq_false', gt_iff_lt, ge_iff_le, Int.not_lt, Int.not_le, Decidable.not_not] at hrb); (try subst hrb); (try (exfalso; omega))))) | (refine kLd 0 rfl rfl (by first | exact T3 | exact T5 | exact T22 | exact T23 | exact T24 | exact T33 | exact T38 | exact T9 | exact T2 | exact T4 | exact T54 | exact T69 | exact T66 | exact T72) rfl ?_) | (refine kLd 1 rfl rfl (by first | exact T3 | exact T5 | exact T22 | exact T23 | exact T24 | exact T33 | exact T38 | exact T9 | exact T2 | exact T4 | exact T54 | exact T69 | exact T66 | exact T72) rfl ?_) | (refine kLdA 0 rfl rfl (by first | exact T3 | exact T5 | exact T22 | exact T23 | exact T24 | exact T33 | exact T38 | exact T9 | exact T2 | exact T4 | exact T54 | exact T69 | exact T66 | exact T72) (Nat.le_of_ble_eq_true rfl) (by simp only [eR, eB, List.drop_succ_cons, List.drop_zero, List.take_succ_cons, List.take_zero, List.set_cons_zero, List.set_cons_succ]; rfl) ?_) | (refine kLdA 1 rfl rfl (by first | exact T3 | exact T5 | exact T22 | exact T23 | exact T24 | exact T33 | exact T38 | exact T9 | exact T2 | exact T4 | exact T54 | exact T69 | exact T66 | exact T72) (Nat.le_of_ble_eq_true rfl) (by simp only [eR, eB, List.drop_succ_cons, List.drop_zero, List.take_succ_cons, List.take_zero, List.set_cons_zero, List.set_cons_succ]; rfl) ?_))
    | ((with_reducible refine gSt ?_); (first | (refine eSt H rfl rfl ⟨.int _ _, rfl, ?_⟩) | (refine eSt H rfl rfl ⟨.bool _, rfl, ?_⟩) | (refine eSt H rfl rfl ⟨.slice _ _ _, rfl, ?_⟩) | (refine eSt H rfl rfl ⟨.pointer _, rfl, ?_⟩) | (refine eSt H rfl rfl ⟨.string _, rfl, ?_⟩) | (refine eSt H rfl rfl ⟨.agg (List.toArray _), rfl, ?_⟩)); (first | (refine kSt 0 rfl rfl (by first | exact T3 | exact T5 | exact T22 | exact T23 | exact T24 | exact T33 | exact T38 | exact T9 | exact T2 | exact T4 | exact T54 | exact T69 | exact T66 | exact T72) rfl (Nat.le_of_ble_eq_true rfl) ?_) | (refine kSt 1 rfl rfl (by first | exact T3 | exact T5 | exact T22 | exact T23 | exact T24 | exact T33 | exact T38 | exact T9 | exact T2 | exact T4 | exact T54 | exact T69 | exact T66 | exact T72) rfl (Nat.le_of_ble_eq_true rfl) ?_) | (refine kStA 0 rfl rfl (by first | exact T3 | exact T5 | exact T22 | exact T23 | exact T24 | exact T33 | exact T38 | exact T9 | exact T2 | exact T4 | exact T54 | exact T69 | exact T66 | exact T72) rfl rfl (Nat.le_of_ble_eq_true rfl) ?_) | (refine kStA 1 rfl rfl (by first | exact T3 | exact T5 | exact T22 | exact T23 | exact T24 | exact T33 | exact T38 | exact T9 | exact T2 | exact T4 | exact T54 | exact T69 | exact T66 | exact T72) rfl rfl (Nat.le_of_ble_eq_true rfl) ?_)); clear H; intro w1 H; simp only [List.set_cons_zero, List.set_cons_succ] at H; (try simp only [lay, List.take_zero, List.nil_append, List.length_cons, List.length_nil, Nat.zero_add, Nat.reduceAdd, List.drop_succ_cons, List.drop_zero, List.drop_nil, List.append_nil, List.take_succ_cons, List.cons_append] at H))
    | ((with_reducible refine gBx ?_); refine bxA H rfl rfl rfl ?_; clear H; intro b1 w1 H)
    | ((with_reducible refine gBs ?_); (first | (refine bs1 H rfl (by first | exact S22 | exact S54 | exact S61) rfl (Nat.le_of_ble_eq_true rfl) (Nat.le_of_ble_eq_true rfl) rfl ?_) | (refine wl_buildSlice0 rfl (by first | exact S22 | exact S54 | exact S61) H ?_)); clear H; intro b1 w1 H)
    | ((with_reducible refine gEq ?_); (first | (refine wl_cmp rfl rfl rfl rfl ?_) | (refine wl_scmp rfl rfl rfl rfl ?_)); intro rb hrb; cases rb <;> (first | (exfalso; simp at hrb; done) | ((try simp only [decide_eq_true_eq, decide_eq_false_iff_not, beq_iff_eq, beq_eq_false_iff_ne, ne_eq, bne_iff_ne, bne_eq_false_iff_eq, Bool.not_eq_true', Bool.not_eq_false', gt_iff_lt, ge_iff_le, Int.not_lt, Int.not_le, Decidable.not_not] at hrb); (try subst hrb); (try (exfalso; omega)))))
    | ((with_reducible refine gRg ?_); refine wp_region_text rfl (by decide +kernel) ?_; replace H := H.drew)
    | ((with_reducible refine EndQ.intro ?_ ?_); (· kernel_rfl)))
  go_ret2
  exact ⟨rfl, H⟩
end Go.Proofs.Ytajaloaknfbobaa
