/- What functions of layer 1 compute. -/
import Derived.Test.YtajaloaknfbobaaW7
import Derived.Test.YtajaloaknfbobaaW8
import Derived.Test.YtajaloaknfbobaaW5
import Derived.Test.YtajaloaknfbobaaGxApS
import Derived.WalkKit
import Derived.WalkLawsBesides
import Derived.Lib.Hide
import Derived.Deep.LoopGhost
import Derived.WalkSpells
set_option linter.unusedVariables false
set_option linter.unusedSimpArgs false
namespace Go.Proofs.Ytajaloaknfbobaa
open Go.RowKit Go.Gx Go.Gx.Cod
set_option maxRecDepth 100000

def txt (s : ByteArray) : List UInt8 := s.data.toList
theorem txt_bs (s : ByteArray) : byteCells s = bs (txt s) := rfl
theorem txt_len (s : ByteArray) : (txt s).length = s.size := Array.length_toList
theorem enc_len1 (n : Nat) : 0 < (enc n).length := by
  by_cases h : n < 128
  · rw [enc_lo h]; exact Nat.one_pos
  · rw [enc_hi h, List.length_cons]; omega
theorem enc_len_le {n : Nat} (h : n < 18446744073709551616) : (enc n).length ≤ 10 := by
  have key : ∀ k m, k ≤ 9 → m < 2 ^ (64 - 7 * k) → (enc m).length ≤ 10 - k := by
    intro k
    induction h9 : 10 - k generalizing k with
    | zero => intro m hk; omega
    | succ j ih =>
      intro m hk hm
      by_cases hlo : m < 128
      · rw [enc_lo hlo]; simp
      · obtain ⟨hk2, hm2⟩ := num_step hk hm hlo
        rw [enc_hi hlo, List.length_cons]
        have := ih (k + 1) (by omega) (m / 128) (by omega) hm2
        omega
  have := key 0 n (by omega) (by show n < 2 ^ 64; omega)
  omega
set_option maxHeartbeats 4000000 in
theorem PutText_spec {w0 w : World} {D : Nat → Prop} {R : List Ent} {x : Option Addr} {c : Nat} {l : List UInt8} (H : Hp w0 D (R) w) (hX : Rd w0 D R x (bs l)) (hl : l.length ≤ 1000000) {t : ByteArray} (ht : t.size ≤ 1000000) :
    Calls Try.prog 15 #[.slice x l.length c, .string t] w fun e w' => ∃ a' c', e = .returned (.slice (adr a' 0) (l ++ enc t.size ++ txt t).length c') ∧ Hp w0 D (eB a' c' (l ++ enc t.size ++ txt t) :: R) w' := by
  have HX := Lib.hid hX
  have hel : (enc t.size).length ≤ 10 := enc_len_le (by omega)
  clear hX
  try simp only [eR, eB] at H
  try simp only [eR, eB]
  go_enter Try.func15, Try.ntmps15
  go_wp2_with (first
    | ((with_reducible refine gCv ?_); refine wl_cvI rfl Try.underlying3 Try.underlying33 (by first | with_reducible exact conv_u64 (by omega) (by omega)) rfl ?_)
    | (go_at_call 13; (with_reducible refine (PutNum_spec (n := t.size) H HX.out (by omega) (by omega)).mono ?_); rintro e w1 ⟨a1, c1, rfl, H1⟩; clear H; have H := H1; clear H1)
    | ((with_reducible refine gAp ?_); go_loud (obtain ⟨b0, rfl⟩ := H.some_of (i := 0) rfl (by dsimp only; rw [bs_len, List.length_append]; have := enc_len1 t.size; omega)); refine wl_appendS 0 rfl H rfl rfl rfl rfl S22 Try.underlying9 rfl (by rw [bs_length, List.length_append]) (Nat.mul_one _).symm (by unfold maxLen; omega) (by omega) ?_; clear H; intro a' cap' w1 H; simp only [List.set_cons_zero, List.set_cons_succ, Nat.mul_one] at H; rw [txt_bs, ← bs_append] at H)
    | ((with_reducible refine gLd ?_); refine eLd H rfl rfl ?_; first | (refine kLdB 0 rfl rfl (by first | exact T3 | exact T5 | exact T22 | exact T23 | exact T24 | exact T33 | exact T38 | exact T9 | exact T2 | exact T4 | exact T54 | exact T69 | exact T66 | exact T72) rfl ?_; intro rb hrb; cases rb <;> (first | (exfalso; simp at hrb; done) | ((try simp only [decide_eq_true_eq, decide_eq_false_iff_not, beq_iff_eq, beq_eq_false_iff_ne, ne_eq, bne_iff_ne, bne_eq_false_iff_eq, Bool.not_eq_true', Bool.not_eq_false', gt_iff_lt, ge_iff_le, Int.not_lt, Int.not_le, Decidable.not_not] at hrb); (try subst hrb); (try (exfalso; omega))))) | (refine kLdB 1 rfl rfl (by first | exact T3 | exact T5 | exact T22 | exact T23 | exact T24 | exact T33 | exact T38 | exact T9 | exact T2 | exact T4 | exact T54 | exact T69 | exact T66 | exact T72) rfl ?_; intro rb hrb; cases rb <;> (first | (exfalso; simp at hrb; done) | ((try simp only [decide_eq_true_eq, decide_eq_false_iff_not, beq_iff_eq, beq_eq_false_iff_ne, ne_eq, bne_iff_ne, bne_eq_false_iff_eq, Bool.not_eq_true', Bool.not_eq_false', gt_iff_lt, ge_iff_le, Int.not_lt, Int.not_le, Decidable.not_not] at hrb); (try subst hrb); (try (exfalso; omega))))) | (refine kLd 0 rfl rfl (by first | exact T3 | exact T5 | exact T22 | exact T23 | exact T24 | exact T33 | exact T38 | exact T9 | exact T2 | exact T4 | exact T54 | exact T69 | exact T66 | exact T72) rfl ?_) | (refine kLd 1 rfl rfl (by first | exact T3 | exact T5 | exact T22 | exact T23 | exact T24 | exact T33 | exact T38 | exact T9 | exact T2 | exact T4 | exact T54 | exact T69 | exact T66 | exact T72) rfl ?_) | (refine kLdA 0 rfl rfl (by first | exact T3 | exact T5 | exact T22 | exact T23 | exact T24 | exact T33 | exact T38 | exact T9 | exact T2 | exact T4 | exact T54 | exact T69 | exact T66 | exact T72) (Nat.le_of_ble_eq_true rfl) (by simp only [eR, eB, List.drop_succ_cons, List.drop_zero, List.take_succ_cons, List.take_zero, List.set_cons_zero, List.set_cons_succ]; rfl) ?_) | (refine kLdA 1 rfl rfl (by first | exact T3 | exact T5 | exact T22 | exact T23 | exact T24 | exact T33 | exact T38 | exact T9 | exact T2 | exact T4 | exact T54 | exact T69 | exact T66 | exact T72) (Nat.le_of_ble_eq_true rfl) (by simp only [eR, eB, List.drop_succ_cons, List.drop_zero, List.take_succ_cons, List.take_zero, List.set_cons_zero, List.set_cons_succ]; rfl) ?_))
    | ((with_reducible refine gSt ?_); (first | (refine eSt H rfl rfl ⟨.int _ _, rfl, ?_⟩) | (refine eSt H rfl rfl ⟨.bool _, rfl, ?_⟩) | (refine eSt H rfl rfl ⟨.slice _ _ _, rfl, ?_⟩) | (refine eSt H rfl rfl ⟨.pointer _, rfl, ?_⟩) | (refine eSt H rfl rfl ⟨.string _, rfl, ?_⟩) | (refine eSt H rfl rfl ⟨.agg (List.toArray _), rfl, ?_⟩)); (first | (refine kSt 0 rfl rfl (by first | exact T3 | exact T5 | exact T22 | exact T23 | exact T24 | exact T33 | exact T38 | exact T9 | exact T2 | exact T4 | exact T54 | exact T69 | exact T66 | exact T72) rfl (Nat.le_of_ble_eq_true rfl) ?_) | (refine kSt 1 rfl rfl (by first | exact T3 | exact T5 | exact T22 | exact T23 | exact T24 | exact T33 | exact T38 | exact T9 | exact T2 | exact T4 | exact T54 | exact T69 | exact T66 | exact T72) rfl (Nat.le_of_ble_eq_true rfl) ?_) | (refine kStA 0 rfl rfl (by first | exact T3 | exact T5 | exact T22 | exact T23 | exact T24 | exact T33 | exact T38 | exact T9 | exact T2 | exact T4 | exact T54 | exact T69 | exact T66 | exact T72) rfl rfl (Nat.le_of_ble_eq_true rfl) ?_) | (refine kStA 1 rfl rfl (by first | exact T3 | exact T5 | exact T22 | exact T23 | exact T24 | exact T33 | exact T38 | exact T9 | exact T2 | exact T4 | exact T54 | exact T69 | exact T66 | exact T72) rfl rfl (Nat.le_of_ble_eq_true rfl) ?_)); clear H; intro w1 H; simp only [List.set_cons_zero, List.set_cons_succ] at H; (try simp only [lay, List.take_zero, List.nil_append, List.length_cons, List.length_nil, Nat.zero_add, Nat.reduceAdd, List.drop_succ_cons, List.drop_zero, List.drop_nil, List.append_nil, List.take_succ_cons, List.cons_append] at H))
    | ((with_reducible refine gBx ?_); refine bxA H rfl rfl rfl ?_; clear H; intro b1 w1 H)
    | ((with_reducible refine gBs ?_); (first | (refine bs1 H rfl (by first | exact S22 | exact S54 | exact S61) rfl (Nat.le_of_ble_eq_true rfl) (Nat.le_of_ble_eq_true rfl) rfl ?_) | (refine wl_buildSlice0 rfl (by first | exact S22 | exact S54 | exact S61) H ?_)); clear H; intro b1 w1 H)
    | ((with_reducible refine gEq ?_); (first | (refine wl_cmp rfl rfl rfl rfl ?_) | (refine wl_scmp rfl rfl rfl rfl ?_)); intro rb hrb; cases rb <;> (first | (exfalso; simp at hrb; done) | ((try simp only [decide_eq_true_eq, decide_eq_false_iff_not, beq_iff_eq, beq_eq_false_iff_ne, ne_eq, bne_iff_ne, bne_eq_false_iff_eq, Bool.not_eq_true', Bool.not_eq_false', gt_iff_lt, ge_iff_le, Int.not_lt, Int.not_le, Decidable.not_not] at hrb); (try subst hrb); (try (exfalso; omega)))))
    | ((with_reducible refine gRg ?_); refine wp_region_text rfl (by decide +kernel) ?_; replace H := H.drew)
    | ((with_reducible refine EndQ.intro ?_ ?_); (· kernel_rfl)))
  go_ret
  refine ⟨some a', cap', ?_, H⟩
  simp [txt_len, List.length_append]
  omega

def zig (i : Int) : Nat := if 0 ≤ i then (2 * i).toNat else (2 * (-(i + 1)) + 1).toNat
theorem bandO {v b : Nat} (hv : v < 18446744073709551616) (h : v % 2 = b) : bitop .and .u64 (v : Int) 1 = some (b : Int) := by
  subst h
  simp only [bitop]
  congr 1
  have h1 : (BitVec.ofInt IntKind.u64.bits (v : Int) &&& BitVec.ofInt IntKind.u64.bits 1).toNat = v % 2 := by
    rw [BitVec.toNat_and]
    have e1 : (BitVec.ofInt IntKind.u64.bits (v : Int)).toNat = v := by
      simp [IntKind.bits]; omega
    have e2 : (BitVec.ofInt IntKind.u64.bits 1).toNat = 1 := by decide
    rw [e1, e2]
    exact Nat.and_one_is_mod v
  rw [h1]
  exact conv_u64 (by omega) (by omega)
theorem bxor0 {h : Nat} (hh : h < 9223372036854775808) : bitop .xor .i64 (h : Int) 0 = some (h : Int) := by
  simp only [bitop]
  congr 1
  have h1 : (BitVec.ofInt IntKind.i64.bits (h : Int) ^^^ BitVec.ofInt IntKind.i64.bits 0).toNat = h := by
    rw [BitVec.toNat_xor]
    have e1 : (BitVec.ofInt IntKind.i64.bits (h : Int)).toNat = h := by simp [IntKind.bits]; omega
    have e2 : (BitVec.ofInt IntKind.i64.bits 0).toNat = 0 := by decide
    rw [e1, e2, Nat.xor_zero]
  rw [h1]
  exact conv_i64 (by omega) (by omega)
theorem bxorM {h : Nat} (hh : h < 9223372036854775808) : bitop .xor .i64 (h : Int) (-1) = some (-(h : Int) - 1) := by
  simp only [bitop]
  congr 1
  have h1 : (BitVec.ofInt IntKind.i64.bits (h : Int) ^^^ BitVec.ofInt IntKind.i64.bits (-1)).toNat = 18446744073709551615 - h := by
    show (BitVec.ofInt 64 (h : Int) ^^^ BitVec.ofInt 64 (-1)).toNat = 18446744073709551615 - h
    have e0 : BitVec.ofInt 64 (-1) = BitVec.allOnes 64 := by decide
    rw [e0, BitVec.xor_allOnes, BitVec.toNat_not]
    have e1 : (BitVec.ofInt 64 (h : Int)).toNat = h := by simp; omega
    rw [e1]
  rw [h1, IntKind.wrap_i64]
  omega
set_option maxHeartbeats 4000000 in
theorem Int_ok {w0 w : World} {D : Nat → Prop} {R : List Ent} {p c : Nat} {a : Option Nat} {r : Rr} (H : Hp w0 D (eR 66 p a c (r) :: eB a c (r).l :: R) w) (h1 : r.at_ ≤ r.l.length) (h2 : r.l.length ≤ 2000000) (he0 : r.err = 0) {k : Nat} {i : Int} (hi0 : -9223372036854775808 ≤ i) (hi1 : i < 9223372036854775808) (hn : numM (r.l.drop r.at_) 0 0 = (k, 0, zig i)) {qe : Nat} (hq : r.at_ + k = qe) :
    Calls Try.prog 21 #[.pointer (some ⟨p, 0, none⟩)] w fun e w' => e = .returned (.int .i64 i) ∧ Hp w0 D (eR 66 p a c ({ r with at_ := qe }) :: eB a c ({ r with at_ := qe }).l :: R) w' := by
  have HN := Lib.hid hn
  have HQ := Lib.hid hq
  clear hn hq
  obtain ⟨v, hv⟩ : ∃ v, zig i = v := ⟨_, rfl⟩
  try simp only [eR, eB] at H
  try simp only [eR, eB]
  rw [hv] at HN
  obtain ⟨h, hh⟩ : ∃ h, v / 2 ^ 1 = h := ⟨_, rfl⟩
  have HH := Lib.hid hh
  unfold zig at hv
  have hvb : v < 18446744073709551616 := (by split at hv <;> omega)
  have hhb : h < 9223372036854775808 := (by omega)
  have HV := Lib.hid hvb
  clear hvb
  go_enter Try.func21, Try.ntmps21
  rcases (by omega : v % 2 = 0 ∨ v % 2 = 1) with hb | hb
  · have hr : i = (h : Int) := by split at hv <;> omega
    clear hv hh
    have HB := Lib.hid hb
    clear hb hi0
    go_wp2_with (first
    | (go_at_call 20; (with_reducible refine (Num_ok (r := r) H h1 h2 he0 HN.out HQ.out).mono ?_); rintro e w1 ⟨rfl, H1⟩; clear H; have H := H1; clear H1)
    | ((with_reducible refine gEq ?_); refine wl_bit rfl rfl (by first | exact .inl rfl | exact .inr (.inl rfl) | exact .inr (.inr rfl)) (by first | with_reducible exact bshrQ rfl (by decide) HH.out | with_reducible exact bandO HV.out HB.out | with_reducible exact bxor0 hhb) rfl ?_)
    | ((with_reducible refine gCv ?_); refine wl_cvI rfl Try.underlying33 Try.underlying2 (by first | with_reducible exact conv_i64 (by omega) (by omega)) rfl ?_)
    | ((with_reducible refine gUn ?_); refine wl_run rfl (run_neg (r := 0) rfl (by decide)) ?_)
    | ((with_reducible refine gLd ?_); refine eLd H rfl rfl ?_; first | (refine kLdB 0 rfl rfl (by first | exact T3 | exact T5 | exact T22 | exact T23 | exact T24 | exact T33 | exact T38 | exact T9 | exact T2 | exact T4 | exact T54 | exact T69 | exact T66 | exact T72) rfl ?_; intro rb hrb; cases rb <;> (first | (exfalso; simp at hrb; done) | ((try simp only [decide_eq_true_eq, decide_eq_false_iff_not, beq_iff_eq, beq_eq_false_iff_ne, ne_eq, bne_iff_ne, bne_eq_false_iff_eq, Bool.not_eq_true', Bool.not_eq_false', gt_iff_lt, ge_iff_le, Int.not_lt, Int.not_le, Decidable.not_not] at hrb); (try subst hrb); (try (exfalso; omega))))) | (refine kLdB 1 rfl rfl (by first | exact T3 | exact T5 | exact T22 | exact T23 | exact T24 | exact T33 | exact T38 | exact T9 | exact T2 | exact T4 | exact T54 | exact T69 | exact T66 | exact T72) rfl ?_; intro rb hrb; cases rb <;> (first | (exfalso; simp at hrb; done) | ((try simp only [decide_eq_true_eq, decide_eq_false_iff_not, beq_iff_eq, beq_eq_false_iff_ne, ne_eq, bne_iff_ne, bne_eq_false_iff_eq, Bool.not_eq_true', Bool.not_eq_false', gt_iff_lt, ge_iff_le, Int.not_lt, Int.not_le, Decidable.not_not] at hrb); (try subst hrb); (try (exfalso; omega))))) | (refine kLd 0 rfl rfl (by first | exact T3 | exact T5 | exact T22 | exact T23 | exact T24 | exact T33 | exact T38 | exact T9 | exact T2 | exact T4 | exact T54 | exact T69 | exact T66 | exact T72) rfl ?_) | (refine kLd 1 rfl rfl (by first | exact T3 | exact T5 | exact T22 | exact T23 | exact T24 | exact T33 | exact T38 | exact T9 | exact T2 | exact T4 | exact T54 | exact T69 | exact T66 | exact T72) rfl ?_) | (refine kLdA 0 rfl rfl (by first | exact T3 | exact T5 | exact T22 | exact T23 | exact T24 | exact T33 | exact T38 | exact T9 | exact T2 | exact T4 | exact T54 | exact T69 | exact T66 | exact T72) (Nat.le_of_ble_eq_true rfl) (by simp only [eR, eB, List.drop_succ_cons, List.drop_zero, List.take_succ_cons, List.take_zero, List.set_cons_zero, List.set_cons_succ]; rfl) ?_) | (refine kLdA 1 rfl rfl (by first | exact T3 | exact T5 | exact T22 | exact T23 | exact T24 | exact T33 | exact T38 | exact T9 | exact T2 | exact T4 | exact T54 | exact T69 | exact T66 | exact T72) (Nat.le_of_ble_eq_true rfl) (by simp only [eR, eB, List.drop_succ_cons, List.drop_zero, List.take_succ_cons, List.take_zero, List.set_cons_zero, List.set_cons_succ]; rfl) ?_))
    | ((with_reducible refine gSt ?_); (first | (refine eSt H rfl rfl ⟨.int _ _, rfl, ?_⟩) | (refine eSt H rfl rfl ⟨.bool _, rfl, ?_⟩) | (refine eSt H rfl rfl ⟨.slice _ _ _, rfl, ?_⟩) | (refine eSt H rfl rfl ⟨.pointer _, rfl, ?_⟩) | (refine eSt H rfl rfl ⟨.string _, rfl, ?_⟩) | (refine eSt H rfl rfl ⟨.agg (List.toArray _), rfl, ?_⟩)); (first | (refine kSt 0 rfl rfl (by first | exact T3 | exact T5 | exact T22 | exact T23 | exact T24 | exact T33 | exact T38 | exact T9 | exact T2 | exact T4 | exact T54 | exact T69 | exact T66 | exact T72) rfl (Nat.le_of_ble_eq_true rfl) ?_) | (refine kSt 1 rfl rfl (by first | exact T3 | exact T5 | exact T22 | exact T23 | exact T24 | exact T33 | exact T38 | exact T9 | exact T2 | exact T4 | exact T54 | exact T69 | exact T66 | exact T72) rfl (Nat.le_of_ble_eq_true rfl) ?_) | (refine kStA 0 rfl rfl (by first | exact T3 | exact T5 | exact T22 | exact T23 | exact T24 | exact T33 | exact T38 | exact T9 | exact T2 | exact T4 | exact T54 | exact T69 | exact T66 | exact T72) rfl rfl (Nat.le_of_ble_eq_true rfl) ?_) | (refine kStA 1 rfl rfl (by first | exact T3 | exact T5 | exact T22 | exact T23 | exact T24 | exact T33 | exact T38 | exact T9 | exact T2 | exact T4 | exact T54 | exact T69 | exact T66 | exact T72) rfl rfl (Nat.le_of_ble_eq_true rfl) ?_)); clear H; intro w1 H; simp only [List.set_cons_zero, List.set_cons_succ] at H; (try simp only [lay, List.take_zero, List.nil_append, List.length_cons, List.length_nil, Nat.zero_add, Nat.reduceAdd, List.drop_succ_cons, List.drop_zero, List.drop_nil, List.append_nil, List.take_succ_cons, List.cons_append] at H))
    | ((with_reducible refine gBx ?_); refine bxA H rfl rfl rfl ?_; clear H; intro b1 w1 H)
    | ((with_reducible refine gBs ?_); (first | (refine bs1 H rfl (by first | exact S22 | exact S54 | exact S61) rfl (Nat.le_of_ble_eq_true rfl) (Nat.le_of_ble_eq_true rfl) rfl ?_) | (refine wl_buildSlice0 rfl (by first | exact S22 | exact S54 | exact S61) H ?_)); clear H; intro b1 w1 H)
    | ((with_reducible refine gEq ?_); (first | (refine wl_cmp rfl rfl rfl rfl ?_) | (refine wl_scmp rfl rfl rfl rfl ?_)); intro rb hrb; cases rb <;> (first | (exfalso; simp at hrb; done) | ((try simp only [decide_eq_true_eq, decide_eq_false_iff_not, beq_iff_eq, beq_eq_false_iff_ne, ne_eq, bne_iff_ne, bne_eq_false_iff_eq, Bool.not_eq_true', Bool.not_eq_false', gt_iff_lt, ge_iff_le, Int.not_lt, Int.not_le, Decidable.not_not] at hrb); (try subst hrb); (try (exfalso; omega)))))
    | ((with_reducible refine gRg ?_); refine wp_region_text rfl (by decide +kernel) ?_; replace H := H.drew)
    | ((with_reducible refine EndQ.intro ?_ ?_); (· kernel_rfl)))
    go_ret
    exact ⟨congrArg (fun z => Ending.returned (Value.int .i64 z)) (by omega), H⟩
  · have hr : i = -(h : Int) - 1 := by split at hv <;> omega
    clear hv hh
    have HB := Lib.hid hb
    clear hb hi0
    go_wp2_with (first
    | (go_at_call 20; (with_reducible refine (Num_ok (r := r) H h1 h2 he0 HN.out HQ.out).mono ?_); rintro e w1 ⟨rfl, H1⟩; clear H; have H := H1; clear H1)
    | ((with_reducible refine gEq ?_); refine wl_bit rfl rfl (by first | exact .inl rfl | exact .inr (.inl rfl) | exact .inr (.inr rfl)) (by first | with_reducible exact bshrQ rfl (by decide) HH.out | with_reducible exact bandO HV.out HB.out | with_reducible exact bxorM hhb) rfl ?_)
    | ((with_reducible refine gCv ?_); refine wl_cvI rfl Try.underlying33 Try.underlying2 (by first | with_reducible exact conv_i64 (by omega) (by omega)) rfl ?_)
    | ((with_reducible refine gUn ?_); refine wl_run rfl (run_neg (r := -1) rfl (by decide)) ?_)
    | ((with_reducible refine gLd ?_); refine eLd H rfl rfl ?_; first | (refine kLdB 0 rfl rfl (by first | exact T3 | exact T5 | exact T22 | exact T23 | exact T24 | exact T33 | exact T38 | exact T9 | exact T2 | exact T4 | exact T54 | exact T69 | exact T66 | exact T72) rfl ?_; intro rb hrb; cases rb <;> (first | (exfalso; simp at hrb; done) | ((try simp only [decide_eq_true_eq, decide_eq_false_iff_not, beq_iff_eq, beq_eq_false_iff_ne, ne_eq, bne_iff_ne, bne_eq_false_iff_eq, Bool.not_eq_true', Bool.not_eq_false', gt_iff_lt, ge_iff_le, Int.not_lt, Int.not_le, Decidable.not_not] at hrb); (try subst hrb); (try (exfalso; omega))))) | (refine kLdB 1 rfl rfl (by first | exact T3 | exact T5 | exact T22 | exact T23 | exact T24 | exact T33 | exact T38 | exact T9 | exact T2 | exact T4 | exact T54 | exact T69 | exact T66 | exact T72) rfl ?_; intro rb hrb; cases rb <;> (first | (exfalso; simp at hrb; done) | ((try simp only [decide_eq_true_eq, decide_eq_false_iff_not, beq_iff_eq, beq_eq_false_iff_ne, ne_eq, bne_iff_ne, bne_eq_false_iff_eq, Bool.not_eq_true', Bool.not_eq_false', gt_iff_lt, ge_iff_le, Int.not_lt, Int.not_le, Decidable.not_not] at hrb); (try subst hrb); (try (exfalso; omega))))) | (refine kLd 0 rfl rfl (by first | exact T3 | exact T5 | exact T22 | exact T23 | exact T24 | exact T33 | exact T38 | exact T9 | exact T2 | exact T4 | exact T54 | exact T69 | exact T66 | exact T72) rfl ?_) | (refine kLd 1 rfl rfl (by first | exact T3 | exact T5 | exact T22 | exact T23 | exact T24 | exact T33 | exact T38 | exact T9 | exact T2 | exact T4 | exact T54 | exact T69 | exact T66 | exact T72) rfl ?_) | (refine kLdA 0 rfl rfl (by first | exact T3 | exact T5 | exact T22 | exact T23 | exact T24 | exact T33 | exact T38 | exact T9 | exact T2 | exact T4 | exact T54 | exact T69 | exact T66 | exact T72) (Nat.le_of_ble_eq_true rfl) (by simp only [eR, eB, List.drop_succ_cons, List.drop_zero, List.take_succ_cons, List.take_zero, List.set_cons_zero, List.set_cons_succ]; rfl) ?_) | (refine kLdA 1 rfl rfl (by first | exact T3 | exact T5 | exact T22 | exact T23 | exact T24 | exact T33 | exact T38 | exact T9 | exact T2 | exact T4 | exact T54 | exact T69 | exact T66 | exact T72) (Nat.le_of_ble_eq_true rfl) (by simp only [eR, eB, List.drop_succ_cons, List.drop_zero, List.take_succ_cons, List.take_zero, List.set_cons_zero, List.set_cons_succ]; rfl) ?_))
    | ((with_reducible refine gSt ?_); (first | (refine eSt H rfl rfl ⟨.int _ _, rfl, ?_⟩) | (refine eSt H rfl rfl ⟨.bool _, rfl, ?_⟩) | (refine eSt H rfl rfl ⟨.slice _ _ _, rfl, ?_⟩) | (refine eSt H rfl rfl ⟨.pointer _, rfl, ?_⟩) | (refine eSt H rfl rfl ⟨.string _, rfl, ?_⟩) | (refine eSt H rfl rfl ⟨.agg (List.toArray _), rfl, ?_⟩)); (first | (refine kSt 0 rfl rfl (by first | exact T3 | exact T5 | exact T22 | exact T23 | exact T24 | exact T33 | exact T38 | exact T9 | exact T2 | exact T4 | exact T54 | exact T69 | exact T66 | exact T72) rfl (Nat.le_of_ble_eq_true rfl) ?_) | (refine kSt 1 rfl rfl (by first | exact T3 | exact T5 | exact T22 | exact T23 | exact T24 | exact T33 | exact T38 | exact T9 | exact T2 | exact T4 | exact T54 | exact T69 | exact T66 | exact T72) rfl (Nat.le_of_ble_eq_true rfl) ?_) | (refine kStA 0 rfl rfl (by first | exact T3 | exact T5 | exact T22 | exact T23 | exact T24 | exact T33 | exact T38 | exact T9 | exact T2 | exact T4 | exact T54 | exact T69 | exact T66 | exact T72) rfl rfl (Nat.le_of_ble_eq_true rfl) ?_) | (refine kStA 1 rfl rfl (by first | exact T3 | exact T5 | exact T22 | exact T23 | exact T24 | exact T33 | exact T38 | exact T9 | exact T2 | exact T4 | exact T54 | exact T69 | exact T66 | exact T72) rfl rfl (Nat.le_of_ble_eq_true rfl) ?_)); clear H; intro w1 H; simp only [List.set_cons_zero, List.set_cons_succ] at H; (try simp only [lay, List.take_zero, List.nil_append, List.length_cons, List.length_nil, Nat.zero_add, Nat.reduceAdd, List.drop_succ_cons, List.drop_zero, List.drop_nil, List.append_nil, List.take_succ_cons, List.cons_append] at H))
    | ((with_reducible refine gBx ?_); refine bxA H rfl rfl rfl ?_; clear H; intro b1 w1 H)
    | ((with_reducible refine gBs ?_); (first | (refine bs1 H rfl (by first | exact S22 | exact S54 | exact S61) rfl (Nat.le_of_ble_eq_true rfl) (Nat.le_of_ble_eq_true rfl) rfl ?_) | (refine wl_buildSlice0 rfl (by first | exact S22 | exact S54 | exact S61) H ?_)); clear H; intro b1 w1 H)
    | ((with_reducible refine gEq ?_); (first | (refine wl_cmp rfl rfl rfl rfl ?_) | (refine wl_scmp rfl rfl rfl rfl ?_)); intro rb hrb; cases rb <;> (first | (exfalso; simp at hrb; done) | ((try simp only [decide_eq_true_eq, decide_eq_false_iff_not, beq_iff_eq, beq_eq_false_iff_ne, ne_eq, bne_iff_ne, bne_eq_false_iff_eq, Bool.not_eq_true', Bool.not_eq_false', gt_iff_lt, ge_iff_le, Int.not_lt, Int.not_le, Decidable.not_not] at hrb); (try subst hrb); (try (exfalso; omega)))))
    | ((with_reducible refine gRg ?_); refine wp_region_text rfl (by decide +kernel) ?_; replace H := H.drew)
    | ((with_reducible refine EndQ.intro ?_ ?_); (· kernel_rfl)))
    go_ret
    exact ⟨congrArg (fun z => Ending.returned (Value.int .i64 z)) (by omega), H⟩

end Go.Proofs.Ytajaloaknfbobaa
