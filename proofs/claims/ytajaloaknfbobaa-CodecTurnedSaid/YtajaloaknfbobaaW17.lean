/- What functions of layer 1 compute. -/
import Derived.Test.YtajaloaknfbobaaCrc
import Derived.Test.YtajaloaknfbobaaW15
import Derived.Test.YtajaloaknfbobaaGxApS2
import Derived.OwnWalk
import Derived.WalkKit
import Derived.WalkLawsBesides
import Derived.Lib.Hide
import Derived.Deep.LoopGhost
import Derived.WalkSpells
set_option linter.unusedVariables false
set_option linter.unusedSimpArgs false
namespace Go.Proofs.Ytajaloaknfbobaa
open Go.RowKit Go.Gx Go.Gx.Cod
set_option maxRecDepth 100000

theorem bs_set (l : List UInt8) (i : Nat) (v : UInt8) : (bs l).set i (.int .u8 (v.toNat : Int)) = bs (l.set i v) := by simp [bs, List.map_set, byteV]
theorem mask_bit {X : UInt32} {k : Nat} (hk : k < 32) {y z : UInt32} (h1 : X >>> UInt32.ofNat k = y) (h2 : y &&& 1 = z) : z = 1 ↔ X.toBitVec.getLsbD k = true := by
  subst h2
  rw [lsb_iff, ← h1]
  show (X.toBitVec >>> ((UInt32.ofNat k).toBitVec % 32#32).toNat).getLsbD 0 = true ↔ _
  have e : ((UInt32.ofNat k).toBitVec % 32#32).toNat = k := by
    show (UInt32.ofNat k).toNat % 32 = k
    simp; omega
  rw [BitVec.getLsbD_ushiftRight, e, Nat.add_zero]
theorem bshrK {X y : UInt32} {k : Nat} (hk : k < 32) (h : X >>> UInt32.ofNat k = y) : bitop .shr .u32 (X.toNat : Int) (k : Int) = some (y.toNat : Int) := by subst h; exact bshr32 X k hk
theorem run_subI {P : Program} {w : World} {a : Act} {m n r : Int} {t u ty : TypeId} {dst : Option Tmp} {x y : Operand} {pos : String} {af : Array Edge} {g : Option (Nat × Bool)} (hx : a.eval x = .int .i64 m) (hy : a.eval y = .int .i64 n) (hr : IntKind.i64.wrap (m - n) = r) :
    (execOp a.eval ⟨dst, .binOp .sub t x y u, ty, pos, af, g⟩).run P w = .ok (.value (.int .i64 r)) w := by
  subst hr
  simp [execOp, hx, hy, eqGuard, binOp, Op.intArith]
theorem bmulN {p q : Nat} (h : 8 * p = q) (hq : q < 1000000000000) : bitop .mul .i64 8 (p : Int) = some (q : Int) := by
  subst h
  have e : IntKind.i64.wrap (8 * (p : Int)) = ((8 * p : Nat) : Int) := by rw [IntKind.wrap_i64]; omega
  exact congrArg some e
theorem baddC {p c q : Nat} {cI : Int} (hc : cI = (c : Int)) (h : p + c = q) (hq : q < 1000000000000) : bitop .add .i64 (p : Int) cI = some (q : Int) := by
  subst hc; subst h
  have e : IntKind.i64.wrap ((p : Int) + (c : Int)) = ((p + c : Nat) : Int) := by rw [IntKind.wrap_i64]; omega
  exact congrArg some e
theorem baddN {p k q : Nat} (h : p + k = q) (hq : q < 1000000000000) : bitop .add .i64 (p : Int) (k : Int) = some (q : Int) := by
  subst h
  have e : IntKind.i64.wrap ((p : Int) + (k : Int)) = ((p + k : Nat) : Int) := by rw [IntKind.wrap_i64]; omega
  exact congrArg some e
theorem bshl8K {j : Nat} (hj : j < 8) {v : UInt8} (h : (1 : UInt8) <<< UInt8.ofNat j = v) : bitop .shl .u8 1 (j : Int) = some (v.toNat : Int) := by
  subst h
  have : j = 0 ∨ j = 1 ∨ j = 2 ∨ j = 3 ∨ j = 4 ∨ j = 5 ∨ j = 6 ∨ j = 7 := by omega
  rcases this with rfl | rfl | rfl | rfl | rfl | rfl | rfl | rfl <;> decide
theorem bxor8K {X Y Z : UInt8} (h : X ^^^ Y = Z) : bitop .xor .u8 (X.toNat : Int) (Y.toNat : Int) = some (Z.toNat : Int) := by subst h; exact bxor8 X Y
theorem wrapN {m : Nat} (h : m < 1000000000000) : ∀ j : Nat, j ≤ m → IntKind.i64.wrap (j : Int) = j := fun j hj => conv_i64 (by omega) (by omega)
section
variable {w0 w : World} {D : Nat → Prop} {R : List Ent}
theorem Seal_at (H : Hp w0 D R w) {x : Option Addr} {c : Nat} {l : List UInt8} (hX : Rd w0 D R x (bs l)) (hl : l.length ≤ 4096) {n : Nat} (hn : n = l.length) {s : List UInt8} (hs : seal_ l = s) {k : Nat} (hk : s.length = k) :
    Calls Try.prog 9 #[.slice x n c] w fun e w' => ∃ a' c', e = .returned (.tuple #[.slice (adr a' 0) k c', .int .i64 0]) ∧ Hp w0 D (eB a' c' s :: R) w' := by
  subst hn; subst hs; subst hk; exact Seal_ok H hX hl
theorem Open_sum_at (H : Hp w0 D R w) {x : Option Addr} {c n : Nat} {l : List UInt8} (hX : Rd w0 D R x (bs l)) (hl : l.length ≤ 1000000) (hc : l.length ≤ c) (hln : n = l.length) {k v : Nat} (hk : k ≤ l.length) (hv : v ≤ 4096) (hs : k + v + 4 ≤ l.length) (hn : numM (l.drop 0) 0 0 = (k, 0, v)) (hcmp : ¬ le ((l.drop (k + v)).take 4) 0 = (crc ((l.drop k).take v)).toNat) :
    Calls Try.prog 12 #[.slice x n c] w fun e w' => e = .returned (.tuple #[.slice none 0 0, .int .i64 0, .int .i64 12]) ∧ Hp w0 D R w' := by
  subst hln; exact Open_sum H hX hl hc hk hv hs hn hcmp
theorem Open_ok_at (H : Hp w0 D R w) {x : Option Addr} {c n : Nat} {l : List UInt8} (hX : Rd w0 D R x (bs l)) (hl : l.length ≤ 1000000) (hc : l.length ≤ c) (hln : n = l.length) {k v : Nat} (hk : k ≤ l.length) (hv : v ≤ 4096) (hs : k + v + 4 ≤ l.length) (hn : numM (l.drop 0) 0 0 = (k, 0, v)) (hcmp : le ((l.drop (k + v)).take 4) 0 = (crc ((l.drop k).take v)).toNat) :
    Calls Try.prog 12 #[.slice x n c] w fun e w' => ∃ a' c', e = .returned (.tuple #[.slice (adr a' 0) v c', .int .i64 ((k + v + 4 : Nat) : Int), .int .i64 0]) ∧ Hp w0 D (eB a' c' ((l.drop k).take v) :: R) w' := by
  subst hln; exact Open_ok H hX hl hc hk hv hs hn hcmp
end
/-- what is read of a frame whose load and sum may have turned -/
theorem frame_num {n : Nat} (hn : n ≤ 4096) (m : List UInt8) : numM ((enc n ++ m).drop 0) 0 0 = ((enc n).length, 0, n) := by
  rw [List.drop_zero]; exact numM_enc0 (by omega) m
theorem frame_load (n : Nat) (m : List UInt8) : ((enc n ++ m).drop (enc n).length).take n = m.take n := by rw [List.drop_left]
theorem frame_sum {n : Nat} {m : List UInt8} (hm : m.length = n + 4) : ((enc n ++ m).drop ((enc n).length + n)).take 4 = m.drop n := by
  rw [← List.drop_drop, List.drop_left, List.take_of_length_le (by simp; omega)]
set_option maxHeartbeats 4000000 in
theorem Turned_long {w0 w : World} {D : Nat → Prop} {R : List Ent} {i : Int} {X : UInt32} {x : Option Addr} {c : Nat} {l : List UInt8} (H : Hp w0 D (R) w) (hX : Rd w0 D R x (bs l)) (h : 4096 < l.length) (hr : l.length ≤ 140737488351232) :
    Calls Try.prog 3 #[.slice x l.length c, .int .i64 i, .int .u32 (X.toNat : Int)] w fun e w' => e = .returned (.bool true) ∧ ∃ L, Hp w0 D L w' := by
  have HX := Lib.hid hX
  clear hX
  try simp only [eR, eB] at H
  try simp only [eR, eB]
  go_enter Try.func3, Try.ntmps3
  go_wp2_with (first
    | ((with_reducible refine gAp ?_); refine wl_appendR 0 (news := bs l) rfl H rfl rfl rfl rfl S22 (by decide) rfl rfl rfl (fun h => HX.out.nil h) (bs_length _) (bs_one _) (HX.out.news [_] H) (by unfold maxLen; omega) (by omega) ?_; clear H; intro b1 c1 w1 H; simp only [List.set_cons_zero, List.set_cons_succ, List.nil_append, Nat.mul_one, Nat.zero_add] at H)
    | (go_at_call 11; (with_reducible refine (live_spec H).mono ?_); rintro e w1 ⟨rfl, H1⟩; clear H; have H := H1; clear H1)
    | (go_at_call 10; (with_reducible refine (num_spec H _ (by omega) (by omega)).mono ?_); rintro e w1 ⟨rfl, H1⟩; clear H; have H := H1; clear H1)
    | (go_at_call 9; (with_reducible refine (Seal_bad H h (by omega)).mono ?_); rintro e w1 ⟨rfl, H1⟩; clear H; have H := H1; clear H1)
    | ((with_reducible refine gLd ?_); refine eLd H rfl rfl ?_; first | (refine kLdB 0 rfl rfl (by first | exact T3 | exact T5 | exact T22 | exact T23 | exact T24 | exact T33 | exact T38 | exact T9 | exact T2 | exact T4 | exact T54 | exact T69 | exact T66 | exact T72) rfl ?_; intro rb hrb; cases rb <;> (first | (exfalso; simp at hrb; done) | ((try simp only [decide_eq_true_eq, decide_eq_false_iff_not, beq_iff_eq, beq_eq_false_iff_ne, ne_eq, bne_iff_ne, bne_eq_false_iff_eq, Bool.not_eq_true', Bool.not_eq_false', gt_iff_lt, ge_iff_le, Int.not_lt, Int.not_le, Decidable.not_not] at hrb); (try subst hrb); (try (exfalso; omega))))) | (refine kLdB 1 rfl rfl (by first | exact T3 | exact T5 | exact T22 | exact T23 | exact T24 | exact T33 | exact T38 | exact T9 | exact T2 | exact T4 | exact T54 | exact T69 | exact T66 | exact T72) rfl ?_; intro rb hrb; cases rb <;> (first | (exfalso; simp at hrb; done) | ((try simp only [decide_eq_true_eq, decide_eq_false_iff_not, beq_iff_eq, beq_eq_false_iff_ne, ne_eq, bne_iff_ne, bne_eq_false_iff_eq, Bool.not_eq_true', Bool.not_eq_false', gt_iff_lt, ge_iff_le, Int.not_lt, Int.not_le, Decidable.not_not] at hrb); (try subst hrb); (try (exfalso; omega))))) | (refine kLd 0 rfl rfl (by first | exact T3 | exact T5 | exact T22 | exact T23 | exact T24 | exact T33 | exact T38 | exact T9 | exact T2 | exact T4 | exact T54 | exact T69 | exact T66 | exact T72) rfl ?_) | (refine kLd 1 rfl rfl (by first | exact T3 | exact T5 | exact T22 | exact T23 | exact T24 | exact T33 | exact T38 | exact T9 | exact T2 | exact T4 | exact T54 | exact T69 | exact T66 | exact T72) rfl ?_) | (refine kLdA 0 rfl rfl (by first | exact T3 | exact T5 | exact T22 | exact T23 | exact T24 | exact T33 | exact T38 | exact T9 | exact T2 | exact T4 | exact T54 | exact T69 | exact T66 | exact T72) (Nat.le_of_ble_eq_true rfl) (by simp only [eR, eB, List.drop_succ_cons, List.drop_zero, List.take_succ_cons, List.take_zero, List.set_cons_zero, List.set_cons_succ]; rfl) ?_) | (refine kLdA 1 rfl rfl (by first | exact T3 | exact T5 | exact T22 | exact T23 | exact T24 | exact T33 | exact T38 | exact T9 | exact T2 | exact T4 | exact T54 | exact T69 | exact T66 | exact T72) (Nat.le_of_ble_eq_true rfl) (by simp only [eR, eB, List.drop_succ_cons, List.drop_zero, List.take_succ_cons, List.take_zero, List.set_cons_zero, List.set_cons_succ]; rfl) ?_))
    | ((with_reducible refine gSt ?_); (first | (refine eSt H rfl rfl ⟨.int _ _, rfl, ?_⟩) | (refine eSt H rfl rfl ⟨.bool _, rfl, ?_⟩) | (refine eSt H rfl rfl ⟨.slice _ _ _, rfl, ?_⟩) | (refine eSt H rfl rfl ⟨.pointer _, rfl, ?_⟩) | (refine eSt H rfl rfl ⟨.string _, rfl, ?_⟩) | (refine eSt H rfl rfl ⟨.agg (List.toArray _), rfl, ?_⟩)); (first | (refine kSt 0 rfl rfl (by first | exact T3 | exact T5 | exact T22 | exact T23 | exact T24 | exact T33 | exact T38 | exact T9 | exact T2 | exact T4 | exact T54 | exact T69 | exact T66 | exact T72) rfl (Nat.le_of_ble_eq_true rfl) ?_) | (refine kSt 1 rfl rfl (by first | exact T3 | exact T5 | exact T22 | exact T23 | exact T24 | exact T33 | exact T38 | exact T9 | exact T2 | exact T4 | exact T54 | exact T69 | exact T66 | exact T72) rfl (Nat.le_of_ble_eq_true rfl) ?_) | (refine kStA 0 rfl rfl (by first | exact T3 | exact T5 | exact T22 | exact T23 | exact T24 | exact T33 | exact T38 | exact T9 | exact T2 | exact T4 | exact T54 | exact T69 | exact T66 | exact T72) rfl rfl (Nat.le_of_ble_eq_true rfl) ?_) | (refine kStA 1 rfl rfl (by first | exact T3 | exact T5 | exact T22 | exact T23 | exact T24 | exact T33 | exact T38 | exact T9 | exact T2 | exact T4 | exact T54 | exact T69 | exact T66 | exact T72) rfl rfl (Nat.le_of_ble_eq_true rfl) ?_)); clear H; intro w1 H; simp only [List.set_cons_zero, List.set_cons_succ] at H; (try simp only [lay, List.take_zero, List.nil_append, List.length_cons, List.length_nil, Nat.zero_add, Nat.reduceAdd, List.drop_succ_cons, List.drop_zero, List.drop_nil, List.append_nil, List.take_succ_cons, List.cons_append] at H))
    | ((with_reducible refine gBx ?_); refine bxA H rfl rfl rfl ?_; clear H; intro b1 w1 H)
    | ((with_reducible refine gBs ?_); (first | (refine bs1 H rfl (by first | exact S22 | exact S54 | exact S61) rfl (Nat.le_of_ble_eq_true rfl) (Nat.le_of_ble_eq_true rfl) rfl ?_) | (refine wl_buildSlice0 rfl (by first | exact S22 | exact S54 | exact S61) H ?_)); clear H; intro b1 w1 H)
    | ((with_reducible refine gEq ?_); (first | (refine wl_cmp rfl rfl rfl rfl ?_) | (refine wl_scmp rfl rfl rfl rfl ?_)); intro rb hrb; cases rb <;> (first | (exfalso; simp at hrb; done) | ((try simp only [decide_eq_true_eq, decide_eq_false_iff_not, beq_iff_eq, beq_eq_false_iff_ne, ne_eq, bne_iff_ne, bne_eq_false_iff_eq, Bool.not_eq_true', Bool.not_eq_false', gt_iff_lt, ge_iff_le, Int.not_lt, Int.not_le, Decidable.not_not] at hrb); (try subst hrb); (try (exfalso; omega)))))
    | ((with_reducible refine gRg ?_); refine wp_region_text rfl (by decide +kernel) ?_; replace H := H.drew)
    | ((with_reducible refine EndQ.intro ?_ ?_); (· kernel_rfl)))
  all_goals (go_ret; exact ⟨rfl, _, H⟩)
set_option maxHeartbeats 4000000 in
theorem Turned_zero {w0 w : World} {D : Nat → Prop} {R : List Ent} {i : Int} {X : UInt32} {x : Option Addr} {c : Nat} {l : List UInt8} (H : Hp w0 D (R) w) (hX : Rd w0 D R x (bs l)) (h : l.length ≤ 4096) (hm : (X.toNat : Int) = 0) :
    Calls Try.prog 3 #[.slice x l.length c, .int .i64 i, .int .u32 (X.toNat : Int)] w fun e w' => e = .returned (.bool true) ∧ ∃ L, Hp w0 D L w' := by
  have HX := Lib.hid hX
  clear hX
  obtain ⟨s, hs⟩ : ∃ s, seal_ l = s := ⟨_, rfl⟩
  obtain ⟨k, hk⟩ : ∃ k, s.length = k := ⟨_, rfl⟩
  have hk1 : l.length + 5 ≤ k := (by rw [← hk, ← hs, seal_len]; have := enc_len1 l.length; omega)
  have hk2 : k ≤ l.length + 14 := (by rw [← hk, ← hs, seal_len]; have := enc_len_le (n := l.length) (by omega); omega)
  have HS := Lib.hid hs
  have HK := Lib.hid hk
  clear hs hk
  try simp only [eR, eB] at H
  try simp only [eR, eB]
  go_enter Try.func3, Try.ntmps3
  go_wp2_with (first
    | ((with_reducible refine gAp ?_); refine wl_appendR 0 (news := bs l) rfl H rfl rfl rfl rfl S22 (by decide) rfl rfl rfl (fun h => HX.out.nil h) (bs_length _) (bs_one _) (HX.out.news [_] H) (by unfold maxLen; omega) (by omega) ?_; clear H; intro b1 c1 w1 H; simp only [List.set_cons_zero, List.set_cons_succ, List.nil_append, Nat.mul_one, Nat.zero_add] at H)
    | (go_at_call 11; (with_reducible refine (live_spec H).mono ?_); rintro e w1 ⟨rfl, H1⟩; clear H; have H := H1; clear H1)
    | (go_at_call 10; (with_reducible refine (num_spec H _ (by omega) (by omega)).mono ?_); rintro e w1 ⟨rfl, H1⟩; clear H; have H := H1; clear H1)
    | (go_at_call 9; (with_reducible refine (Seal_at (l := l) H (Rd.ent H (i := 0) rfl) (by omega) rfl HS.out HK.out).mono ?_); rintro e w1 ⟨af, cf, rfl, H1⟩; clear H; have H := H1; clear H1)
    | ((with_reducible refine gLd ?_); refine eLd H rfl rfl ?_; first | (refine kLdB 0 rfl rfl (by first | exact T3 | exact T5 | exact T22 | exact T23 | exact T24 | exact T33 | exact T38 | exact T9 | exact T2 | exact T4 | exact T54 | exact T69 | exact T66 | exact T72) rfl ?_; intro rb hrb; cases rb <;> (first | (exfalso; simp at hrb; done) | ((try simp only [decide_eq_true_eq, decide_eq_false_iff_not, beq_iff_eq, beq_eq_false_iff_ne, ne_eq, bne_iff_ne, bne_eq_false_iff_eq, Bool.not_eq_true', Bool.not_eq_false', gt_iff_lt, ge_iff_le, Int.not_lt, Int.not_le, Decidable.not_not] at hrb); (try subst hrb); (try (exfalso; omega))))) | (refine kLdB 1 rfl rfl (by first | exact T3 | exact T5 | exact T22 | exact T23 | exact T24 | exact T33 | exact T38 | exact T9 | exact T2 | exact T4 | exact T54 | exact T69 | exact T66 | exact T72) rfl ?_; intro rb hrb; cases rb <;> (first | (exfalso; simp at hrb; done) | ((try simp only [decide_eq_true_eq, decide_eq_false_iff_not, beq_iff_eq, beq_eq_false_iff_ne, ne_eq, bne_iff_ne, bne_eq_false_iff_eq, Bool.not_eq_true', Bool.not_eq_false', gt_iff_lt, ge_iff_le, Int.not_lt, Int.not_le, Decidable.not_not] at hrb); (try subst hrb); (try (exfalso; omega))))) | (refine kLd 0 rfl rfl (by first | exact T3 | exact T5 | exact T22 | exact T23 | exact T24 | exact T33 | exact T38 | exact T9 | exact T2 | exact T4 | exact T54 | exact T69 | exact T66 | exact T72) rfl ?_) | (refine kLd 1 rfl rfl (by first | exact T3 | exact T5 | exact T22 | exact T23 | exact T24 | exact T33 | exact T38 | exact T9 | exact T2 | exact T4 | exact T54 | exact T69 | exact T66 | exact T72) rfl ?_) | (refine kLdA 0 rfl rfl (by first | exact T3 | exact T5 | exact T22 | exact T23 | exact T24 | exact T33 | exact T38 | exact T9 | exact T2 | exact T4 | exact T54 | exact T69 | exact T66 | exact T72) (Nat.le_of_ble_eq_true rfl) (by simp only [eR, eB, List.drop_succ_cons, List.drop_zero, List.take_succ_cons, List.take_zero, List.set_cons_zero, List.set_cons_succ]; rfl) ?_) | (refine kLdA 1 rfl rfl (by first | exact T3 | exact T5 | exact T22 | exact T23 | exact T24 | exact T33 | exact T38 | exact T9 | exact T2 | exact T4 | exact T54 | exact T69 | exact T66 | exact T72) (Nat.le_of_ble_eq_true rfl) (by simp only [eR, eB, List.drop_succ_cons, List.drop_zero, List.take_succ_cons, List.take_zero, List.set_cons_zero, List.set_cons_succ]; rfl) ?_))
    | ((with_reducible refine gSt ?_); (first | (refine eSt H rfl rfl ⟨.int _ _, rfl, ?_⟩) | (refine eSt H rfl rfl ⟨.bool _, rfl, ?_⟩) | (refine eSt H rfl rfl ⟨.slice _ _ _, rfl, ?_⟩) | (refine eSt H rfl rfl ⟨.pointer _, rfl, ?_⟩) | (refine eSt H rfl rfl ⟨.string _, rfl, ?_⟩) | (refine eSt H rfl rfl ⟨.agg (List.toArray _), rfl, ?_⟩)); (first | (refine kSt 0 rfl rfl (by first | exact T3 | exact T5 | exact T22 | exact T23 | exact T24 | exact T33 | exact T38 | exact T9 | exact T2 | exact T4 | exact T54 | exact T69 | exact T66 | exact T72) rfl (Nat.le_of_ble_eq_true rfl) ?_) | (refine kSt 1 rfl rfl (by first | exact T3 | exact T5 | exact T22 | exact T23 | exact T24 | exact T33 | exact T38 | exact T9 | exact T2 | exact T4 | exact T54 | exact T69 | exact T66 | exact T72) rfl (Nat.le_of_ble_eq_true rfl) ?_) | (refine kStA 0 rfl rfl (by first | exact T3 | exact T5 | exact T22 | exact T23 | exact T24 | exact T33 | exact T38 | exact T9 | exact T2 | exact T4 | exact T54 | exact T69 | exact T66 | exact T72) rfl rfl (Nat.le_of_ble_eq_true rfl) ?_) | (refine kStA 1 rfl rfl (by first | exact T3 | exact T5 | exact T22 | exact T23 | exact T24 | exact T33 | exact T38 | exact T9 | exact T2 | exact T4 | exact T54 | exact T69 | exact T66 | exact T72) rfl rfl (Nat.le_of_ble_eq_true rfl) ?_)); clear H; intro w1 H; simp only [List.set_cons_zero, List.set_cons_succ] at H; (try simp only [lay, List.take_zero, List.nil_append, List.length_cons, List.length_nil, Nat.zero_add, Nat.reduceAdd, List.drop_succ_cons, List.drop_zero, List.drop_nil, List.append_nil, List.take_succ_cons, List.cons_append] at H))
    | ((with_reducible refine gBx ?_); refine bxA H rfl rfl rfl ?_; clear H; intro b1 w1 H)
    | ((with_reducible refine gBs ?_); (first | (refine bs1 H rfl (by first | exact S22 | exact S54 | exact S61) rfl (Nat.le_of_ble_eq_true rfl) (Nat.le_of_ble_eq_true rfl) rfl ?_) | (refine wl_buildSlice0 rfl (by first | exact S22 | exact S54 | exact S61) H ?_)); clear H; intro b1 w1 H)
    | ((with_reducible refine gEq ?_); (first | (refine wl_cmp rfl rfl rfl rfl ?_) | (refine wl_scmp rfl rfl rfl rfl ?_)); intro rb hrb; cases rb <;> (first | (exfalso; simp at hrb; done) | ((try simp only [decide_eq_true_eq, decide_eq_false_iff_not, beq_iff_eq, beq_eq_false_iff_ne, ne_eq, bne_iff_ne, bne_eq_false_iff_eq, Bool.not_eq_true', Bool.not_eq_false', gt_iff_lt, ge_iff_le, Int.not_lt, Int.not_le, Decidable.not_not] at hrb); (try subst hrb); (try (exfalso; omega)))))
    | ((with_reducible refine gRg ?_); refine wp_region_text rfl (by decide +kernel) ?_; replace H := H.drew)
    | ((with_reducible refine EndQ.intro ?_ ?_); (· kernel_rfl)))
  all_goals (go_ret; exact ⟨rfl, _, H⟩)

/-- has a bit been turned so far? -/
def TurnI (X : UInt32) (p : Nat) (m : List UInt8) (k : Nat) (tb : Bool) : Prop := (tb = true ↔ ∃ j < k, X.toBitVec.getLsbD j = true ∧ p + j < 8 * m.length)
theorem TurnI.zero {X : UInt32} {p : Nat} {m : List UInt8} : TurnI X p m 0 false := ⟨(fun h => by cases h), (fun h => by obtain ⟨j, h, _⟩ := h; omega)⟩
theorem TurnI.yes {X : UInt32} {p : Nat} {m : List UInt8} {k : Nat} (h1 : X.toBitVec.getLsbD k = true) (h2 : p + k < 8 * m.length) : TurnI X p m (k + 1) true := ⟨fun _ => ⟨k, by omega, h1, h2⟩, fun _ => rfl⟩
theorem TurnI.no {X : UInt32} {p : Nat} {m : List UInt8} {k : Nat} {tb : Bool} (h : TurnI X p m k tb) (hn : ¬ (X.toBitVec.getLsbD k = true ∧ p + k < 8 * m.length)) : TurnI X p m (k + 1) tb :=
  ⟨fun e => by obtain ⟨j, hj, h3⟩ := h.1 e; exact ⟨j, by omega, h3⟩, fun hh => by
    obtain ⟨j, hj, h3⟩ := hh
    by_cases e : j = k
    · subst e; exact absurd h3 hn
    · exact h.2 ⟨j, by omega, h3⟩⟩
theorem turn_row {h m : List UInt8} {q j : Nat} {pk : Nat} {ch bv v : UInt8} (hq : pk / 8 = q) (hj : pk % 8 = j) (hc : m[q]? = some ch) (hb : (1 : UInt8) <<< UInt8.ofNat j = bv) (hv : ch ^^^ bv = v) : (h ++ m).set (h.length + q) v = h ++ turnBit m pk := by
  rw [List.set_append_right _ _ (by omega), Nat.add_sub_cancel_left, turnBit, hq, hj, hb, List.getD_eq_getElem?_getD, hc, ← hv]
  rfl
set_option maxHeartbeats 8000000 in
theorem Turned_neg {w0 w : World} {D : Nat → Prop} {R : List Ent} {i : Int} {X : UInt32} {x : Option Addr} {c : Nat} {l : List UInt8} (H : Hp w0 D (R) w) (hX : Rd w0 D R x (bs l)) (hi : i < 0) (hi0 : -9223372036854775808 ≤ i) {a0 : Nat} (ha0 : -(i + 1) = (a0 : Int)) (ha1 : a0 < 9223372036854775808) (hl : l.length ≤ 4096) (hm : ¬ (X.toNat : Int) = 0) :
    Calls Try.prog 3 #[.slice x l.length c, .int .i64 i, .int .u32 (X.toNat : Int)] w fun e w' => e = .returned (.bool true) ∧ ∃ L, Hp w0 D L w' := by
  have HX := Lib.hid hX
  clear hX
  obtain ⟨s, hs⟩ : ∃ s, seal_ l = s := ⟨_, rfl⟩
  obtain ⟨k, hk⟩ : ∃ k, s.length = k := ⟨_, rfl⟩
  have hk1 : l.length + 5 ≤ k := (by rw [← hk, ← hs, seal_len]; have := enc_len1 l.length; omega)
  have hk2 : k ≤ l.length + 14 := (by rw [← hk, ← hs, seal_len]; have := enc_len_le (n := l.length) (by omega); omega)
  have HS := Lib.hid hs
  have HK := Lib.hid hk
  clear hs hk
  obtain ⟨h, hh⟩ : ∃ h, enc l.length = h := ⟨_, rfl⟩
  obtain ⟨m0, hm0⟩ : ∃ m, l ++ sum4 (crc l) = m := ⟨_, rfl⟩
  have hsm : s = h ++ m0 := (by rw [← HS.out, ← hh, ← hm0, seal_, List.append_assoc])
  have hml : m0.length = l.length + 4 := (by rw [← hm0]; simp [sum4])
  obtain ⟨hn, hhn⟩ : ∃ hn, h.length = hn := ⟨_, rfl⟩
  have hhl : hn + l.length + 4 = k := (by rw [← HK.out, hsm, List.length_append, hml]; omega)
  have hh10 : hn ≤ 10 := (by rw [← hhn, ← hh]; exact enc_len_le (by omega))
  obtain ⟨k1, hk3⟩ : ∃ k1, k - l.length = k1 := ⟨_, rfl⟩
  have hsb1 : IntKind.i64.wrap ((k : Int) - (l.length : Int)) = (k1 : Int) := (by rw [IntKind.wrap_i64]; omega)
  have hsb2 : IntKind.i64.wrap ((k1 : Int) - 4) = (hn : Int) := (by rw [IntKind.wrap_i64]; omega)
  obtain ⟨l4, hl4⟩ : ∃ l4, l.length + 4 = l4 := ⟨_, rfl⟩
  obtain ⟨nb, hnb⟩ : ∃ nb, 8 * l4 = nb := ⟨_, rfl⟩
  obtain ⟨p, hp⟩ : ∃ p, a0 % nb = p := ⟨_, rfl⟩
  have hpb : p < nb := (by rw [← hp]; exact Nat.mod_lt _ (by omega))
  have hnb1 : nb ≤ 32800 := by omega
  have hnb2 : 32 ≤ nb := by omega
  have hnb3 : nb = 8 * m0.length := by omega
  have hkk1 : hn + l.length + 4 ≤ k := by omega
  have hkk2 : k ≤ hn + l.length + 4 := by omega
  have hkb : l4 ≤ 4100 := by omega
  have hnbl1 : nb ≤ 8 * (l.length + 4) := by omega
  have hnbl2 : 8 * (l.length + 4) ≤ nb := by omega
  have HH := Lib.hid hh
  have HM0 := Lib.hid hm0
  have HSM := Lib.hid hsm
  have HP := Lib.hid hp
  have HL4 := Lib.hid hl4
  have HNB := Lib.hid hnb
  have HSB1 := Lib.hid hsb1
  have HSB2 := Lib.hid hsb2
  have HNB3 := Lib.hid hnb3
  have HML := Lib.hid hml
  have HHN := Lib.hid hhn
  clear hh hm0 hsm hp hnb hml hnb3 hl4 hsb1 hsb2 hk3 hhl hhn
  have hng : IntKind.i64.wrap (0 - (i + 1)) = (a0 : Int) := (by rw [IntKind.wrap_i64]; omega)
  have HNG := Lib.hid hng
  clear hng ha0
  try simp only [eR, eB] at H
  try simp only [eR, eB]
  go_enter Try.func3, Try.ntmps3
  go_wp2_with (first
    | ((with_reducible refine gAp ?_); refine wl_appendR 0 (news := bs l) rfl H rfl rfl rfl rfl S22 (by decide) rfl rfl rfl (fun h => HX.out.nil h) (bs_length _) (bs_one _) (HX.out.news [_] H) (by unfold maxLen; omega) (by omega) ?_; clear H; intro b1 c1 w1 H; simp only [List.set_cons_zero, List.set_cons_succ, List.nil_append, Nat.mul_one, Nat.zero_add] at H)
    | (go_at_call 11; (with_reducible refine (live_spec H).mono ?_); rintro e w1 ⟨rfl, H1⟩; clear H; have H := H1; clear H1)
    | (go_at_call 10; (with_reducible refine (num_spec H _ (by omega) (by omega)).mono ?_); rintro e w1 ⟨rfl, H1⟩; clear H; have H := H1; clear H1)
    | (go_at_call 9; (with_reducible refine (Seal_at (l := l) H (Rd.ent H (i := 0) rfl) (by omega) rfl HS.out HK.out).mono ?_); rintro e w1 ⟨af, cf, rfl, H1⟩; clear H; have H := H1; clear H1)
    | ((with_reducible refine gEq ?_); first | (refine wl_run rfl (run_subI (r := (k1 : Int)) rfl rfl HSB1.out) ?_) | (refine wl_run rfl (run_subI (r := (hn : Int)) rfl rfl HSB2.out) ?_))
    | ((with_reducible refine gEq ?_); refine wl_run rfl (run_divU (m := a0) (n := nb) (r := p) rfl rfl (by omega) (conv_i64 (by omega) (by omega)) (fun j hj => conv_i64 (by omega) (by omega)) (.inr ⟨rfl, HP.out.symm⟩)) ?_)
    | ((with_reducible refine gEq ?_); refine wl_bit rfl rfl (by first | exact .inl rfl | exact .inr (.inl rfl) | exact .inr (.inr rfl)) (by first | with_reducible exact baddC (c := 4) rfl HL4.out (by omega) | with_reducible exact bmulN HNB.out (by omega)) rfl ?_)
    | ((with_reducible refine gUn ?_); refine wl_run rfl (run_neg (r := (a0 : Int)) rfl HNG.out) ?_)
    | ((with_reducible refine gLd ?_); refine eLd H rfl rfl ?_; first | (refine kLdB 0 rfl rfl (by first | exact T3 | exact T5 | exact T22 | exact T23 | exact T24 | exact T33 | exact T38 | exact T9 | exact T2 | exact T4 | exact T54 | exact T69 | exact T66 | exact T72) rfl ?_; intro rb hrb; cases rb <;> (first | (exfalso; simp at hrb; done) | ((try simp only [decide_eq_true_eq, decide_eq_false_iff_not, beq_iff_eq, beq_eq_false_iff_ne, ne_eq, bne_iff_ne, bne_eq_false_iff_eq, Bool.not_eq_true', Bool.not_eq_false', gt_iff_lt, ge_iff_le, Int.not_lt, Int.not_le, Decidable.not_not] at hrb); (try subst hrb); (try (exfalso; omega))))) | (refine kLdB 1 rfl rfl (by first | exact T3 | exact T5 | exact T22 | exact T23 | exact T24 | exact T33 | exact T38 | exact T9 | exact T2 | exact T4 | exact T54 | exact T69 | exact T66 | exact T72) rfl ?_; intro rb hrb; cases rb <;> (first | (exfalso; simp at hrb; done) | ((try simp only [decide_eq_true_eq, decide_eq_false_iff_not, beq_iff_eq, beq_eq_false_iff_ne, ne_eq, bne_iff_ne, bne_eq_false_iff_eq, Bool.not_eq_true', Bool.not_eq_false', gt_iff_lt, ge_iff_le, Int.not_lt, Int.not_le, Decidable.not_not] at hrb); (try subst hrb); (try (exfalso; omega))))) | (refine kLd 0 rfl rfl (by first | exact T3 | exact T5 | exact T22 | exact T23 | exact T24 | exact T33 | exact T38 | exact T9 | exact T2 | exact T4 | exact T54 | exact T69 | exact T66 | exact T72) rfl ?_) | (refine kLd 1 rfl rfl (by first | exact T3 | exact T5 | exact T22 | exact T23 | exact T24 | exact T33 | exact T38 | exact T9 | exact T2 | exact T4 | exact T54 | exact T69 | exact T66 | exact T72) rfl ?_) | (refine kLdA 0 rfl rfl (by first | exact T3 | exact T5 | exact T22 | exact T23 | exact T24 | exact T33 | exact T38 | exact T9 | exact T2 | exact T4 | exact T54 | exact T69 | exact T66 | exact T72) (Nat.le_of_ble_eq_true rfl) (by simp only [eR, eB, List.drop_succ_cons, List.drop_zero, List.take_succ_cons, List.take_zero, List.set_cons_zero, List.set_cons_succ]; rfl) ?_) | (refine kLdA 1 rfl rfl (by first | exact T3 | exact T5 | exact T22 | exact T23 | exact T24 | exact T33 | exact T38 | exact T9 | exact T2 | exact T4 | exact T54 | exact T69 | exact T66 | exact T72) (Nat.le_of_ble_eq_true rfl) (by simp only [eR, eB, List.drop_succ_cons, List.drop_zero, List.take_succ_cons, List.take_zero, List.set_cons_zero, List.set_cons_succ]; rfl) ?_))
    | ((with_reducible refine gSt ?_); (first | (refine eSt H rfl rfl ⟨.int _ _, rfl, ?_⟩) | (refine eSt H rfl rfl ⟨.bool _, rfl, ?_⟩) | (refine eSt H rfl rfl ⟨.slice _ _ _, rfl, ?_⟩) | (refine eSt H rfl rfl ⟨.pointer _, rfl, ?_⟩) | (refine eSt H rfl rfl ⟨.string _, rfl, ?_⟩) | (refine eSt H rfl rfl ⟨.agg (List.toArray _), rfl, ?_⟩)); (first | (refine kSt 0 rfl rfl (by first | exact T3 | exact T5 | exact T22 | exact T23 | exact T24 | exact T33 | exact T38 | exact T9 | exact T2 | exact T4 | exact T54 | exact T69 | exact T66 | exact T72) rfl (Nat.le_of_ble_eq_true rfl) ?_) | (refine kSt 1 rfl rfl (by first | exact T3 | exact T5 | exact T22 | exact T23 | exact T24 | exact T33 | exact T38 | exact T9 | exact T2 | exact T4 | exact T54 | exact T69 | exact T66 | exact T72) rfl (Nat.le_of_ble_eq_true rfl) ?_) | (refine kStA 0 rfl rfl (by first | exact T3 | exact T5 | exact T22 | exact T23 | exact T24 | exact T33 | exact T38 | exact T9 | exact T2 | exact T4 | exact T54 | exact T69 | exact T66 | exact T72) rfl rfl (Nat.le_of_ble_eq_true rfl) ?_) | (refine kStA 1 rfl rfl (by first | exact T3 | exact T5 | exact T22 | exact T23 | exact T24 | exact T33 | exact T38 | exact T9 | exact T2 | exact T4 | exact T54 | exact T69 | exact T66 | exact T72) rfl rfl (Nat.le_of_ble_eq_true rfl) ?_)); clear H; intro w1 H; simp only [List.set_cons_zero, List.set_cons_succ] at H; (try simp only [lay, List.take_zero, List.nil_append, List.length_cons, List.length_nil, Nat.zero_add, Nat.reduceAdd, List.drop_succ_cons, List.drop_zero, List.drop_nil, List.append_nil, List.take_succ_cons, List.cons_append] at H))
    | ((with_reducible refine gBx ?_); refine bxA H rfl rfl rfl ?_; clear H; intro b1 w1 H)
    | ((with_reducible refine gBs ?_); (first | (refine bs1 H rfl (by first | exact S22 | exact S54 | exact S61) rfl (Nat.le_of_ble_eq_true rfl) (Nat.le_of_ble_eq_true rfl) rfl ?_) | (refine wl_buildSlice0 rfl (by first | exact S22 | exact S54 | exact S61) H ?_)); clear H; intro b1 w1 H)
    | ((with_reducible refine gEq ?_); (first | (refine wl_cmp rfl rfl rfl rfl ?_) | (refine wl_scmp rfl rfl rfl rfl ?_)); intro rb hrb; cases rb <;> (first | (exfalso; simp at hrb; done) | ((try simp only [decide_eq_true_eq, decide_eq_false_iff_not, beq_iff_eq, beq_eq_false_iff_ne, ne_eq, bne_iff_ne, bne_eq_false_iff_eq, Bool.not_eq_true', Bool.not_eq_false', gt_iff_lt, ge_iff_le, Int.not_lt, Int.not_le, Decidable.not_not] at hrb); (try subst hrb); (try (exfalso; omega)))))
    | ((with_reducible refine gRg ?_); refine wp_region_text rfl (by decide +kernel) ?_; replace H := H.drew)
    | ((with_reducible refine EndQ.intro ?_ ?_); (· kernel_rfl)))
  rw [HSM.out] at H
  obtain ⟨bf, rfl⟩ := H.some_of (i := 0) rfl (by dsimp only; rw [bs_len, List.length_append, HHN.out, HML.out]; omega)
  go_loopg [11, 12] 32 (fun g v11 v12 wr => ∃ (kk : Nat) (tb : Bool), kk + g = 32 ∧ v11 = .bool tb ∧ v12 = .int .i64 (kk : Int) ∧ TurnI X p m0 kk tb ∧ Hp w0 D (eB (some bf) cf (h ++ turnK X p m0 kk) :: eB (some b1) c1 l :: R) wr)
  case atStart => exact ⟨0, false, by omega, rfl, rfl, TurnI.zero, H⟩
  case round =>
    clear H
    obtain ⟨kk, tb, hkg, rfl, rfl, hT, H⟩ := hrel
    have HTT := Lib.hid hT
    clear hT
    by_cases hk : kk < 32
    · have HG := Lib.hid hkg
      clear hkg
      have hgp : 0 < gk := by have := HG.out; omega
      obtain ⟨y, hy⟩ : ∃ y, X >>> UInt32.ofNat kk = y := ⟨_, rfl⟩
      obtain ⟨z, hz⟩ : ∃ z, y &&& 1 = z := ⟨_, rfl⟩
      obtain ⟨pk, hpk⟩ : ∃ pk, p + kk = pk := ⟨_, rfl⟩
      have hbit := mask_bit hk hy hz
      have hpk1 : pk ≤ p + kk := Nat.le_of_eq hpk.symm
      have hpk2 : p + kk ≤ pk := Nat.le_of_eq hpk
      have HY := Lib.hid hy
      have HZ := Lib.hid hz
      have HPK := Lib.hid hpk
      clear hy hz hpk
      by_cases hb : X.toBitVec.getLsbD kk = true
      · have hv : (z.toNat : Int) = 1 := by rw [hbit.2 hb]; rfl
        have HB := Lib.hid hb
        clear hb hbit
        by_cases hpn : pk < nb
        · obtain ⟨q, hq⟩ : ∃ q, pk / 8 = q := ⟨_, rfl⟩
          obtain ⟨j, hj⟩ : ∃ j, pk % 8 = j := ⟨_, rfl⟩
          obtain ⟨ix, hix⟩ : ∃ ix, hn + q = ix := ⟨_, rfl⟩
          have hq1 : q < l.length + 4 := by omega
          have hj8 : j < 8 := by omega
          have hix2 : ix < k := by omega
          have hlen : (turnK X p m0 kk).length = l.length + 4 := by rw [turnK_len, HML.out]
          obtain ⟨ch, hch⟩ : ∃ ch, (turnK X p m0 kk)[q]? = some ch := ⟨_, List.getElem?_eq_getElem (by omega)⟩
          obtain ⟨bv, hbv⟩ : ∃ bv, (1 : UInt8) <<< UInt8.ofNat j = bv := ⟨_, rfl⟩
          obtain ⟨v, hvv⟩ : ∃ v, ch ^^^ bv = v := ⟨_, rfl⟩
          have hC : (h ++ turnK X p m0 kk)[ix]? = some ch := by
            rw [← hix, ← HHN.out, List.getElem?_append_right (by omega), Nat.add_sub_cancel_left]; exact hch
          have hrow : (h ++ turnK X p m0 kk).set ix v = h ++ turnK X p m0 (kk + 1) := by
            have h9 := turn_row (h := h) (m := turnK X p m0 kk) hq hj hch hbv hvv
            rw [HHN.out, hix] at h9
            rw [h9, turnK, if_pos ⟨HB.out, by have := HPK.out; have := HNB3.out; omega⟩, HPK.out]
          have hFl : (h ++ turnK X p m0 kk).length = k := by rw [List.length_append, HHN.out, hlen]; omega
          have HC := Lib.hid (bs_get hC)
          have HROW := Lib.hid hrow
          have HQ := Lib.hid hq
          have HJ := Lib.hid hj
          have HIX := Lib.hid hix
          have HBV := Lib.hid hbv
          have HV := Lib.hid hvv
          have HFL := Lib.hid hFl
          have HWP := Lib.hid (wrapN (m := pk) (by omega) pk (Nat.le_refl _))
          have HWJ := Lib.hid (wrapN (m := pk) (by omega))
          have hcf : k ≤ cf := by have h5 := H.le (i := 0) rfl; dsimp only at h5; rw [bs_len, HFL.out] at h5; exact h5
          clear hC hrow hq hj hix hbv hvv hFl hch hlen
          
          go_wp2_with (first
    | ((with_reducible refine gLd ?_); refine eLd H rfl rfl ?_; refine kLd 0 rfl rfl T5 HC.out ?_)
    | ((with_reducible refine gSt ?_); refine eSt H rfl rfl ⟨.int _ _, rfl, ?_⟩; refine kSt 0 rfl rfl T5 rfl ?_ ?_; (· (dsimp only; rw [bs_len, HFL.out]; omega)); clear H; intro w1 H; simp only [List.set_cons_zero, List.set_cons_succ] at H; rw [bs_set] at H)
    | ((with_reducible refine gEq ?_); first | (refine wl_run rfl (run_divU (m := pk) (n := 8) (r := q) rfl rfl (by decide) HWP.out HWJ.out (.inl ⟨rfl, HQ.out.symm⟩)) ?_) | (refine wl_run rfl (run_divU (m := pk) (n := 8) (r := j) rfl rfl (by decide) HWP.out HWJ.out (.inr ⟨rfl, HJ.out.symm⟩)) ?_))
    | ((with_reducible refine gCv ?_); refine wl_cvI rfl Try.underlying3 Try.underlying29 (by first | with_reducible exact conv_u64 (by omega) (by omega)) rfl ?_)
    | ((with_reducible refine gEq ?_); refine wl_bit rfl rfl (by first | exact .inl rfl | exact .inr (.inl rfl) | exact .inr (.inr rfl)) (by first | with_reducible exact bshrK hk HY.out | with_reducible exact band1 HZ.out | with_reducible exact baddN HPK.out (by omega) | with_reducible exact baddN HIX.out (by omega) | with_reducible exact bshl8K hj8 HBV.out | with_reducible exact bxor8K HV.out) rfl ?_)
    | ((with_reducible refine gLd ?_); refine eLd H rfl rfl ?_; first | (refine kLdB 0 rfl rfl (by first | exact T3 | exact T5 | exact T22 | exact T23 | exact T24 | exact T33 | exact T38 | exact T9 | exact T2 | exact T4 | exact T54 | exact T69 | exact T66 | exact T72) rfl ?_; intro rb hrb; cases rb <;> (first | (exfalso; simp at hrb; done) | ((try simp only [decide_eq_true_eq, decide_eq_false_iff_not, beq_iff_eq, beq_eq_false_iff_ne, ne_eq, bne_iff_ne, bne_eq_false_iff_eq, Bool.not_eq_true', Bool.not_eq_false', gt_iff_lt, ge_iff_le, Int.not_lt, Int.not_le, Decidable.not_not] at hrb); (try subst hrb); (try (exfalso; omega))))) | (refine kLdB 1 rfl rfl (by first | exact T3 | exact T5 | exact T22 | exact T23 | exact T24 | exact T33 | exact T38 | exact T9 | exact T2 | exact T4 | exact T54 | exact T69 | exact T66 | exact T72) rfl ?_; intro rb hrb; cases rb <;> (first | (exfalso; simp at hrb; done) | ((try simp only [decide_eq_true_eq, decide_eq_false_iff_not, beq_iff_eq, beq_eq_false_iff_ne, ne_eq, bne_iff_ne, bne_eq_false_iff_eq, Bool.not_eq_true', Bool.not_eq_false', gt_iff_lt, ge_iff_le, Int.not_lt, Int.not_le, Decidable.not_not] at hrb); (try subst hrb); (try (exfalso; omega))))) | (refine kLd 0 rfl rfl (by first | exact T3 | exact T5 | exact T22 | exact T23 | exact T24 | exact T33 | exact T38 | exact T9 | exact T2 | exact T4 | exact T54 | exact T69 | exact T66 | exact T72) rfl ?_) | (refine kLd 1 rfl rfl (by first | exact T3 | exact T5 | exact T22 | exact T23 | exact T24 | exact T33 | exact T38 | exact T9 | exact T2 | exact T4 | exact T54 | exact T69 | exact T66 | exact T72) rfl ?_) | (refine kLdA 0 rfl rfl (by first | exact T3 | exact T5 | exact T22 | exact T23 | exact T24 | exact T33 | exact T38 | exact T9 | exact T2 | exact T4 | exact T54 | exact T69 | exact T66 | exact T72) (Nat.le_of_ble_eq_true rfl) (by simp only [eR, eB, List.drop_succ_cons, List.drop_zero, List.take_succ_cons, List.take_zero, List.set_cons_zero, List.set_cons_succ]; rfl) ?_) | (refine kLdA 1 rfl rfl (by first | exact T3 | exact T5 | exact T22 | exact T23 | exact T24 | exact T33 | exact T38 | exact T9 | exact T2 | exact T4 | exact T54 | exact T69 | exact T66 | exact T72) (Nat.le_of_ble_eq_true rfl) (by simp only [eR, eB, List.drop_succ_cons, List.drop_zero, List.take_succ_cons, List.take_zero, List.set_cons_zero, List.set_cons_succ]; rfl) ?_))
    | ((with_reducible refine gSt ?_); (first | (refine eSt H rfl rfl ⟨.int _ _, rfl, ?_⟩) | (refine eSt H rfl rfl ⟨.bool _, rfl, ?_⟩) | (refine eSt H rfl rfl ⟨.slice _ _ _, rfl, ?_⟩) | (refine eSt H rfl rfl ⟨.pointer _, rfl, ?_⟩) | (refine eSt H rfl rfl ⟨.string _, rfl, ?_⟩) | (refine eSt H rfl rfl ⟨.agg (List.toArray _), rfl, ?_⟩)); (first | (refine kSt 0 rfl rfl (by first | exact T3 | exact T5 | exact T22 | exact T23 | exact T24 | exact T33 | exact T38 | exact T9 | exact T2 | exact T4 | exact T54 | exact T69 | exact T66 | exact T72) rfl (Nat.le_of_ble_eq_true rfl) ?_) | (refine kSt 1 rfl rfl (by first | exact T3 | exact T5 | exact T22 | exact T23 | exact T24 | exact T33 | exact T38 | exact T9 | exact T2 | exact T4 | exact T54 | exact T69 | exact T66 | exact T72) rfl (Nat.le_of_ble_eq_true rfl) ?_) | (refine kStA 0 rfl rfl (by first | exact T3 | exact T5 | exact T22 | exact T23 | exact T24 | exact T33 | exact T38 | exact T9 | exact T2 | exact T4 | exact T54 | exact T69 | exact T66 | exact T72) rfl rfl (Nat.le_of_ble_eq_true rfl) ?_) | (refine kStA 1 rfl rfl (by first | exact T3 | exact T5 | exact T22 | exact T23 | exact T24 | exact T33 | exact T38 | exact T9 | exact T2 | exact T4 | exact T54 | exact T69 | exact T66 | exact T72) rfl rfl (Nat.le_of_ble_eq_true rfl) ?_)); clear H; intro w1 H; simp only [List.set_cons_zero, List.set_cons_succ] at H; (try simp only [lay, List.take_zero, List.nil_append, List.length_cons, List.length_nil, Nat.zero_add, Nat.reduceAdd, List.drop_succ_cons, List.drop_zero, List.drop_nil, List.append_nil, List.take_succ_cons, List.cons_append] at H))
    | ((with_reducible refine gBx ?_); refine bxA H rfl rfl rfl ?_; clear H; intro b1 w1 H)
    | ((with_reducible refine gBs ?_); (first | (refine bs1 H rfl (by first | exact S22 | exact S54 | exact S61) rfl (Nat.le_of_ble_eq_true rfl) (Nat.le_of_ble_eq_true rfl) rfl ?_) | (refine wl_buildSlice0 rfl (by first | exact S22 | exact S54 | exact S61) H ?_)); clear H; intro b1 w1 H)
    | ((with_reducible refine gEq ?_); (first | (refine wl_cmp rfl rfl rfl rfl ?_) | (refine wl_scmp rfl rfl rfl rfl ?_)); intro rb hrb; cases rb <;> (first | (exfalso; simp at hrb; done) | ((try simp only [decide_eq_true_eq, decide_eq_false_iff_not, beq_iff_eq, beq_eq_false_iff_ne, ne_eq, bne_iff_ne, bne_eq_false_iff_eq, Bool.not_eq_true', Bool.not_eq_false', gt_iff_lt, ge_iff_le, Int.not_lt, Int.not_le, Decidable.not_not] at hrb); (try subst hrb); (try (exfalso; omega)))))
    | ((with_reducible refine gRg ?_); refine wp_region_text rfl (by decide +kernel) ?_; replace H := H.drew)
    | ((with_reducible refine EndQ.intro ?_ ?_); (· kernel_rfl)))
          go_roundg (gk - 1)
          case measure => omega
          case rel => exact ⟨kk + 1, true, by have := HG.out; omega, rfl, by go_num, TurnI.yes HB.out (by have := HNB3.out; omega), HROW.out ▸ H⟩
        · have hrow : turnK X p m0 (kk + 1) = turnK X p m0 kk := by rw [turnK, if_neg (by have := HNB3.out; omega)]
          have HROW := Lib.hid hrow
          clear hrow
          
          go_wp2_with (first
    | ((with_reducible refine gLd ?_); refine eLd H rfl rfl ?_; refine kLd 0 rfl rfl T5 HC.out ?_)
    | ((with_reducible refine gSt ?_); refine eSt H rfl rfl ⟨.int _ _, rfl, ?_⟩; refine kSt 0 rfl rfl T5 rfl ?_ ?_; (· (dsimp only; rw [bs_len, HFL.out]; omega)); clear H; intro w1 H; simp only [List.set_cons_zero, List.set_cons_succ] at H; rw [bs_set] at H)
    | ((with_reducible refine gEq ?_); first | (refine wl_run rfl (run_divU (m := pk) (n := 8) (r := q) rfl rfl (by decide) HWP.out HWJ.out (.inl ⟨rfl, HQ.out.symm⟩)) ?_) | (refine wl_run rfl (run_divU (m := pk) (n := 8) (r := j) rfl rfl (by decide) HWP.out HWJ.out (.inr ⟨rfl, HJ.out.symm⟩)) ?_))
    | ((with_reducible refine gCv ?_); refine wl_cvI rfl Try.underlying3 Try.underlying29 (by first | with_reducible exact conv_u64 (by omega) (by omega)) rfl ?_)
    | ((with_reducible refine gEq ?_); refine wl_bit rfl rfl (by first | exact .inl rfl | exact .inr (.inl rfl) | exact .inr (.inr rfl)) (by first | with_reducible exact bshrK hk HY.out | with_reducible exact band1 HZ.out | with_reducible exact baddN HPK.out (by omega)) rfl ?_)
    | ((with_reducible refine gLd ?_); refine eLd H rfl rfl ?_; first | (refine kLdB 0 rfl rfl (by first | exact T3 | exact T5 | exact T22 | exact T23 | exact T24 | exact T33 | exact T38 | exact T9 | exact T2 | exact T4 | exact T54 | exact T69 | exact T66 | exact T72) rfl ?_; intro rb hrb; cases rb <;> (first | (exfalso; simp at hrb; done) | ((try simp only [decide_eq_true_eq, decide_eq_false_iff_not, beq_iff_eq, beq_eq_false_iff_ne, ne_eq, bne_iff_ne, bne_eq_false_iff_eq, Bool.not_eq_true', Bool.not_eq_false', gt_iff_lt, ge_iff_le, Int.not_lt, Int.not_le, Decidable.not_not] at hrb); (try subst hrb); (try (exfalso; omega))))) | (refine kLdB 1 rfl rfl (by first | exact T3 | exact T5 | exact T22 | exact T23 | exact T24 | exact T33 | exact T38 | exact T9 | exact T2 | exact T4 | exact T54 | exact T69 | exact T66 | exact T72) rfl ?_; intro rb hrb; cases rb <;> (first | (exfalso; simp at hrb; done) | ((try simp only [decide_eq_true_eq, decide_eq_false_iff_not, beq_iff_eq, beq_eq_false_iff_ne, ne_eq, bne_iff_ne, bne_eq_false_iff_eq, Bool.not_eq_true', Bool.not_eq_false', gt_iff_lt, ge_iff_le, Int.not_lt, Int.not_le, Decidable.not_not] at hrb); (try subst hrb); (try (exfalso; omega))))) | (refine kLd 0 rfl rfl (by first | exact T3 | exact T5 | exact T22 | exact T23 | exact T24 | exact T33 | exact T38 | exact T9 | exact T2 | exact T4 | exact T54 | exact T69 | exact T66 | exact T72) rfl ?_) | (refine kLd 1 rfl rfl (by first | exact T3 | exact T5 | exact T22 | exact T23 | exact T24 | exact T33 | exact T38 | exact T9 | exact T2 | exact T4 | exact T54 | exact T69 | exact T66 | exact T72) rfl ?_) | (refine kLdA 0 rfl rfl (by first | exact T3 | exact T5 | exact T22 | exact T23 | exact T24 | exact T33 | exact T38 | exact T9 | exact T2 | exact T4 | exact T54 | exact T69 | exact T66 | exact T72) (Nat.le_of_ble_eq_true rfl) (by simp only [eR, eB, List.drop_succ_cons, List.drop_zero, List.take_succ_cons, List.take_zero, List.set_cons_zero, List.set_cons_succ]; rfl) ?_) | (refine kLdA 1 rfl rfl (by first | exact T3 | exact T5 | exact T22 | exact T23 | exact T24 | exact T33 | exact T38 | exact T9 | exact T2 | exact T4 | exact T54 | exact T69 | exact T66 | exact T72) (Nat.le_of_ble_eq_true rfl) (by simp only [eR, eB, List.drop_succ_cons, List.drop_zero, List.take_succ_cons, List.take_zero, List.set_cons_zero, List.set_cons_succ]; rfl) ?_))
    | ((with_reducible refine gSt ?_); (first | (refine eSt H rfl rfl ⟨.int _ _, rfl, ?_⟩) | (refine eSt H rfl rfl ⟨.bool _, rfl, ?_⟩) | (refine eSt H rfl rfl ⟨.slice _ _ _, rfl, ?_⟩) | (refine eSt H rfl rfl ⟨.pointer _, rfl, ?_⟩) | (refine eSt H rfl rfl ⟨.string _, rfl, ?_⟩) | (refine eSt H rfl rfl ⟨.agg (List.toArray _), rfl, ?_⟩)); (first | (refine kSt 0 rfl rfl (by first | exact T3 | exact T5 | exact T22 | exact T23 | exact T24 | exact T33 | exact T38 | exact T9 | exact T2 | exact T4 | exact T54 | exact T69 | exact T66 | exact T72) rfl (Nat.le_of_ble_eq_true rfl) ?_) | (refine kSt 1 rfl rfl (by first | exact T3 | exact T5 | exact T22 | exact T23 | exact T24 | exact T33 | exact T38 | exact T9 | exact T2 | exact T4 | exact T54 | exact T69 | exact T66 | exact T72) rfl (Nat.le_of_ble_eq_true rfl) ?_) | (refine kStA 0 rfl rfl (by first | exact T3 | exact T5 | exact T22 | exact T23 | exact T24 | exact T33 | exact T38 | exact T9 | exact T2 | exact T4 | exact T54 | exact T69 | exact T66 | exact T72) rfl rfl (Nat.le_of_ble_eq_true rfl) ?_) | (refine kStA 1 rfl rfl (by first | exact T3 | exact T5 | exact T22 | exact T23 | exact T24 | exact T33 | exact T38 | exact T9 | exact T2 | exact T4 | exact T54 | exact T69 | exact T66 | exact T72) rfl rfl (Nat.le_of_ble_eq_true rfl) ?_)); clear H; intro w1 H; simp only [List.set_cons_zero, List.set_cons_succ] at H; (try simp only [lay, List.take_zero, List.nil_append, List.length_cons, List.length_nil, Nat.zero_add, Nat.reduceAdd, List.drop_succ_cons, List.drop_zero, List.drop_nil, List.append_nil, List.take_succ_cons, List.cons_append] at H))
    | ((with_reducible refine gBx ?_); refine bxA H rfl rfl rfl ?_; clear H; intro b1 w1 H)
    | ((with_reducible refine gBs ?_); (first | (refine bs1 H rfl (by first | exact S22 | exact S54 | exact S61) rfl (Nat.le_of_ble_eq_true rfl) (Nat.le_of_ble_eq_true rfl) rfl ?_) | (refine wl_buildSlice0 rfl (by first | exact S22 | exact S54 | exact S61) H ?_)); clear H; intro b1 w1 H)
    | ((with_reducible refine gEq ?_); (first | (refine wl_cmp rfl rfl rfl rfl ?_) | (refine wl_scmp rfl rfl rfl rfl ?_)); intro rb hrb; cases rb <;> (first | (exfalso; simp at hrb; done) | ((try simp only [decide_eq_true_eq, decide_eq_false_iff_not, beq_iff_eq, beq_eq_false_iff_ne, ne_eq, bne_iff_ne, bne_eq_false_iff_eq, Bool.not_eq_true', Bool.not_eq_false', gt_iff_lt, ge_iff_le, Int.not_lt, Int.not_le, Decidable.not_not] at hrb); (try subst hrb); (try (exfalso; omega)))))
    | ((with_reducible refine gRg ?_); refine wp_region_text rfl (by decide +kernel) ?_; replace H := H.drew)
    | ((with_reducible refine EndQ.intro ?_ ?_); (· kernel_rfl)))
          go_roundg (gk - 1)
          case measure => omega
          case rel => exact ⟨kk + 1, tb, by have := HG.out; omega, rfl, by go_num, HTT.out.no (by have := HNB3.out; omega), HROW.out.symm ▸ H⟩
      · have hv : ¬ (z.toNat : Int) = 1 := fun e => hb (hbit.1 (u32_one e))
        have hrow : turnK X p m0 (kk + 1) = turnK X p m0 kk := by rw [turnK, if_neg (fun e => hb e.1)]
        have HROW := Lib.hid hrow
        have HB := Lib.hid hb
        clear hrow hb hbit
        skip
        
        go_wp2_with (first
    | ((with_reducible refine gLd ?_); refine eLd H rfl rfl ?_; refine kLd 0 rfl rfl T5 HC.out ?_)
    | ((with_reducible refine gSt ?_); refine eSt H rfl rfl ⟨.int _ _, rfl, ?_⟩; refine kSt 0 rfl rfl T5 rfl ?_ ?_; (· (dsimp only; rw [bs_len, HFL.out]; omega)); clear H; intro w1 H; simp only [List.set_cons_zero, List.set_cons_succ] at H; rw [bs_set] at H)
    | ((with_reducible refine gEq ?_); first | (refine wl_run rfl (run_divU (m := pk) (n := 8) (r := q) rfl rfl (by decide) HWP.out HWJ.out (.inl ⟨rfl, HQ.out.symm⟩)) ?_) | (refine wl_run rfl (run_divU (m := pk) (n := 8) (r := j) rfl rfl (by decide) HWP.out HWJ.out (.inr ⟨rfl, HJ.out.symm⟩)) ?_))
    | ((with_reducible refine gCv ?_); refine wl_cvI rfl Try.underlying3 Try.underlying29 (by first | with_reducible exact conv_u64 (by omega) (by omega)) rfl ?_)
    | ((with_reducible refine gEq ?_); refine wl_bit rfl rfl (by first | exact .inl rfl | exact .inr (.inl rfl) | exact .inr (.inr rfl)) (by first | with_reducible exact bshrK hk HY.out | with_reducible exact band1 HZ.out | with_reducible exact baddN HPK.out (by omega)) rfl ?_)
    | ((with_reducible refine gLd ?_); refine eLd H rfl rfl ?_; first | (refine kLdB 0 rfl rfl (by first | exact T3 | exact T5 | exact T22 | exact T23 | exact T24 | exact T33 | exact T38 | exact T9 | exact T2 | exact T4 | exact T54 | exact T69 | exact T66 | exact T72) rfl ?_; intro rb hrb; cases rb <;> (first | (exfalso; simp at hrb; done) | ((try simp only [decide_eq_true_eq, decide_eq_false_iff_not, beq_iff_eq, beq_eq_false_iff_ne, ne_eq, bne_iff_ne, bne_eq_false_iff_eq, Bool.not_eq_true', Bool.not_eq_false', gt_iff_lt, ge_iff_le, Int.not_lt, Int.not_le, Decidable.not_not] at hrb); (try subst hrb); (try (exfalso; omega))))) | (refine kLdB 1 rfl rfl (by first | exact T3 | exact T5 | exact T22 | exact T23 | exact T24 | exact T33 | exact T38 | exact T9 | exact T2 | exact T4 | exact T54 | exact T69 | exact T66 | exact T72) rfl ?_; intro rb hrb; cases rb <;> (first | (exfalso; simp at hrb; done) | ((try simp only [decide_eq_true_eq, decide_eq_false_iff_not, beq_iff_eq, beq_eq_false_iff_ne, ne_eq, bne_iff_ne, bne_eq_false_iff_eq, Bool.not_eq_true', Bool.not_eq_false', gt_iff_lt, ge_iff_le, Int.not_lt, Int.not_le, Decidable.not_not] at hrb); (try subst hrb); (try (exfalso; omega))))) | (refine kLd 0 rfl rfl (by first | exact T3 | exact T5 | exact T22 | exact T23 | exact T24 | exact T33 | exact T38 | exact T9 | exact T2 | exact T4 | exact T54 | exact T69 | exact T66 | exact T72) rfl ?_) | (refine kLd 1 rfl rfl (by first | exact T3 | exact T5 | exact T22 | exact T23 | exact T24 | exact T33 | exact T38 | exact T9 | exact T2 | exact T4 | exact T54 | exact T69 | exact T66 | exact T72) rfl ?_) | (refine kLdA 0 rfl rfl (by first | exact T3 | exact T5 | exact T22 | exact T23 | exact T24 | exact T33 | exact T38 | exact T9 | exact T2 | exact T4 | exact T54 | exact T69 | exact T66 | exact T72) (Nat.le_of_ble_eq_true rfl) (by simp only [eR, eB, List.drop_succ_cons, List.drop_zero, List.take_succ_cons, List.take_zero, List.set_cons_zero, List.set_cons_succ]; rfl) ?_) | (refine kLdA 1 rfl rfl (by first | exact T3 | exact T5 | exact T22 | exact T23 | exact T24 | exact T33 | exact T38 | exact T9 | exact T2 | exact T4 | exact T54 | exact T69 | exact T66 | exact T72) (Nat.le_of_ble_eq_true rfl) (by simp only [eR, eB, List.drop_succ_cons, List.drop_zero, List.take_succ_cons, List.take_zero, List.set_cons_zero, List.set_cons_succ]; rfl) ?_))
    | ((with_reducible refine gSt ?_); (first | (refine eSt H rfl rfl ⟨.int _ _, rfl, ?_⟩) | (refine eSt H rfl rfl ⟨.bool _, rfl, ?_⟩) | (refine eSt H rfl rfl ⟨.slice _ _ _, rfl, ?_⟩) | (refine eSt H rfl rfl ⟨.pointer _, rfl, ?_⟩) | (refine eSt H rfl rfl ⟨.string _, rfl, ?_⟩) | (refine eSt H rfl rfl ⟨.agg (List.toArray _), rfl, ?_⟩)); (first | (refine kSt 0 rfl rfl (by first | exact T3 | exact T5 | exact T22 | exact T23 | exact T24 | exact T33 | exact T38 | exact T9 | exact T2 | exact T4 | exact T54 | exact T69 | exact T66 | exact T72) rfl (Nat.le_of_ble_eq_true rfl) ?_) | (refine kSt 1 rfl rfl (by first | exact T3 | exact T5 | exact T22 | exact T23 | exact T24 | exact T33 | exact T38 | exact T9 | exact T2 | exact T4 | exact T54 | exact T69 | exact T66 | exact T72) rfl (Nat.le_of_ble_eq_true rfl) ?_) | (refine kStA 0 rfl rfl (by first | exact T3 | exact T5 | exact T22 | exact T23 | exact T24 | exact T33 | exact T38 | exact T9 | exact T2 | exact T4 | exact T54 | exact T69 | exact T66 | exact T72) rfl rfl (Nat.le_of_ble_eq_true rfl) ?_) | (refine kStA 1 rfl rfl (by first | exact T3 | exact T5 | exact T22 | exact T23 | exact T24 | exact T33 | exact T38 | exact T9 | exact T2 | exact T4 | exact T54 | exact T69 | exact T66 | exact T72) rfl rfl (Nat.le_of_ble_eq_true rfl) ?_)); clear H; intro w1 H; simp only [List.set_cons_zero, List.set_cons_succ] at H; (try simp only [lay, List.take_zero, List.nil_append, List.length_cons, List.length_nil, Nat.zero_add, Nat.reduceAdd, List.drop_succ_cons, List.drop_zero, List.drop_nil, List.append_nil, List.take_succ_cons, List.cons_append] at H))
    | ((with_reducible refine gBx ?_); refine bxA H rfl rfl rfl ?_; clear H; intro b1 w1 H)
    | ((with_reducible refine gBs ?_); (first | (refine bs1 H rfl (by first | exact S22 | exact S54 | exact S61) rfl (Nat.le_of_ble_eq_true rfl) (Nat.le_of_ble_eq_true rfl) rfl ?_) | (refine wl_buildSlice0 rfl (by first | exact S22 | exact S54 | exact S61) H ?_)); clear H; intro b1 w1 H)
    | ((with_reducible refine gEq ?_); (first | (refine wl_cmp rfl rfl rfl rfl ?_) | (refine wl_scmp rfl rfl rfl rfl ?_)); intro rb hrb; cases rb <;> (first | (exfalso; simp at hrb; done) | ((try simp only [decide_eq_true_eq, decide_eq_false_iff_not, beq_iff_eq, beq_eq_false_iff_ne, ne_eq, bne_iff_ne, bne_eq_false_iff_eq, Bool.not_eq_true', Bool.not_eq_false', gt_iff_lt, ge_iff_le, Int.not_lt, Int.not_le, Decidable.not_not] at hrb); (try subst hrb); (try (exfalso; omega)))))
    | ((with_reducible refine gRg ?_); refine wp_region_text rfl (by decide +kernel) ?_; replace H := H.drew)
    | ((with_reducible refine EndQ.intro ?_ ?_); (· kernel_rfl)))
        go_roundg (gk - 1)
        case measure => omega
        case rel => exact ⟨kk + 1, tb, by have := HG.out; omega, rfl, by go_num, HTT.out.no (fun e => HB.out e.1), HROW.out.symm ▸ H⟩
    · obtain rfl : kk = 32 := by omega
      clear hkg
      obtain ⟨mf, hmf⟩ : ∃ mf, turnK X p m0 32 = mf := ⟨_, rfl⟩
      rw [hmf] at H
      have hmfl : mf.length = l.length + 4 := by rw [← hmf, turnK_len, HML.out]
      have hkl : k = (h ++ mf).length := by rw [List.length_append, HHN.out, hmfl]; omega
      have hnm : numM ((h ++ mf).drop 0) 0 0 = (hn, 0, l.length) := by rw [← HHN.out, ← HH.out]; exact frame_num hl mf
      have hfl : ((h ++ mf).drop hn).take l.length = mf.take l.length := by rw [← HHN.out, ← HH.out]; exact frame_load l.length mf
      have hfs : ((h ++ mf).drop (hn + l.length)).take 4 = mf.drop l.length := by rw [← HHN.out, ← HH.out]; exact frame_sum hmfl
      have HKL := Lib.hid hkl
      have HNM := Lib.hid hnm
      have hF1 : (h ++ mf).length ≤ k := Nat.le_of_eq hkl.symm
      have hF2 : k ≤ (h ++ mf).length := Nat.le_of_eq hkl
      have hcf : (h ++ mf).length ≤ cf := by have h5 := H.le (i := 0) rfl; dsimp only at h5; rw [bs_len] at h5; exact h5
      cases tb with
      | true =>
        obtain ⟨j, hj, hjb, hjn⟩ := HTT.out.1 rfl
        have hcmp := turned_told (mask := X) (at_ := p) (l := l) (m' := mf) (by omega) hj hjb (by have := HML.out; omega) (by rw [HM0.out]; exact hmf)
        rw [← hfl, ← hfs] at hcmp
        have HCMP := Lib.hid hcmp
        clear hcmp hfl hfs hnm hkl hmf hjb hjn
        go_wp2_with (first
    | (go_at_call 11; (with_reducible refine (live_spec H).mono ?_); rintro e w1 ⟨rfl, H1⟩; clear H; have H := H1; clear H1)
    | (go_at_call 10; (with_reducible refine (num_spec H _ (by omega) (by omega)).mono ?_); rintro e w1 ⟨rfl, H1⟩; clear H; have H := H1; clear H1)
    | (go_at_call 12; (with_reducible refine (Open_sum_at (l := h ++ mf) H (Rd.ent H (i := 0) rfl) (by omega) hcf HKL.out (by omega) hl (by omega) HNM.out HCMP.out).mono ?_); rintro e w1 ⟨rfl, H1⟩; clear H; have H := H1; clear H1)
    | ((with_reducible refine gLd ?_); refine eLd H rfl rfl ?_; first | (refine kLdB 0 rfl rfl (by first | exact T3 | exact T5 | exact T22 | exact T23 | exact T24 | exact T33 | exact T38 | exact T9 | exact T2 | exact T4 | exact T54 | exact T69 | exact T66 | exact T72) rfl ?_; intro rb hrb; cases rb <;> (first | (exfalso; simp at hrb; done) | ((try simp only [decide_eq_true_eq, decide_eq_false_iff_not, beq_iff_eq, beq_eq_false_iff_ne, ne_eq, bne_iff_ne, bne_eq_false_iff_eq, Bool.not_eq_true', Bool.not_eq_false', gt_iff_lt, ge_iff_le, Int.not_lt, Int.not_le, Decidable.not_not] at hrb); (try subst hrb); (try (exfalso; omega))))) | (refine kLdB 1 rfl rfl (by first | exact T3 | exact T5 | exact T22 | exact T23 | exact T24 | exact T33 | exact T38 | exact T9 | exact T2 | exact T4 | exact T54 | exact T69 | exact T66 | exact T72) rfl ?_; intro rb hrb; cases rb <;> (first | (exfalso; simp at hrb; done) | ((try simp only [decide_eq_true_eq, decide_eq_false_iff_not, beq_iff_eq, beq_eq_false_iff_ne, ne_eq, bne_iff_ne, bne_eq_false_iff_eq, Bool.not_eq_true', Bool.not_eq_false', gt_iff_lt, ge_iff_le, Int.not_lt, Int.not_le, Decidable.not_not] at hrb); (try subst hrb); (try (exfalso; omega))))) | (refine kLd 0 rfl rfl (by first | exact T3 | exact T5 | exact T22 | exact T23 | exact T24 | exact T33 | exact T38 | exact T9 | exact T2 | exact T4 | exact T54 | exact T69 | exact T66 | exact T72) rfl ?_) | (refine kLd 1 rfl rfl (by first | exact T3 | exact T5 | exact T22 | exact T23 | exact T24 | exact T33 | exact T38 | exact T9 | exact T2 | exact T4 | exact T54 | exact T69 | exact T66 | exact T72) rfl ?_) | (refine kLdA 0 rfl rfl (by first | exact T3 | exact T5 | exact T22 | exact T23 | exact T24 | exact T33 | exact T38 | exact T9 | exact T2 | exact T4 | exact T54 | exact T69 | exact T66 | exact T72) (Nat.le_of_ble_eq_true rfl) (by simp only [eR, eB, List.drop_succ_cons, List.drop_zero, List.take_succ_cons, List.take_zero, List.set_cons_zero, List.set_cons_succ]; rfl) ?_) | (refine kLdA 1 rfl rfl (by first | exact T3 | exact T5 | exact T22 | exact T23 | exact T24 | exact T33 | exact T38 | exact T9 | exact T2 | exact T4 | exact T54 | exact T69 | exact T66 | exact T72) (Nat.le_of_ble_eq_true rfl) (by simp only [eR, eB, List.drop_succ_cons, List.drop_zero, List.take_succ_cons, List.take_zero, List.set_cons_zero, List.set_cons_succ]; rfl) ?_))
    | ((with_reducible refine gSt ?_); (first | (refine eSt H rfl rfl ⟨.int _ _, rfl, ?_⟩) | (refine eSt H rfl rfl ⟨.bool _, rfl, ?_⟩) | (refine eSt H rfl rfl ⟨.slice _ _ _, rfl, ?_⟩) | (refine eSt H rfl rfl ⟨.pointer _, rfl, ?_⟩) | (refine eSt H rfl rfl ⟨.string _, rfl, ?_⟩) | (refine eSt H rfl rfl ⟨.agg (List.toArray _), rfl, ?_⟩)); (first | (refine kSt 0 rfl rfl (by first | exact T3 | exact T5 | exact T22 | exact T23 | exact T24 | exact T33 | exact T38 | exact T9 | exact T2 | exact T4 | exact T54 | exact T69 | exact T66 | exact T72) rfl (Nat.le_of_ble_eq_true rfl) ?_) | (refine kSt 1 rfl rfl (by first | exact T3 | exact T5 | exact T22 | exact T23 | exact T24 | exact T33 | exact T38 | exact T9 | exact T2 | exact T4 | exact T54 | exact T69 | exact T66 | exact T72) rfl (Nat.le_of_ble_eq_true rfl) ?_) | (refine kStA 0 rfl rfl (by first | exact T3 | exact T5 | exact T22 | exact T23 | exact T24 | exact T33 | exact T38 | exact T9 | exact T2 | exact T4 | exact T54 | exact T69 | exact T66 | exact T72) rfl rfl (Nat.le_of_ble_eq_true rfl) ?_) | (refine kStA 1 rfl rfl (by first | exact T3 | exact T5 | exact T22 | exact T23 | exact T24 | exact T33 | exact T38 | exact T9 | exact T2 | exact T4 | exact T54 | exact T69 | exact T66 | exact T72) rfl rfl (Nat.le_of_ble_eq_true rfl) ?_)); clear H; intro w1 H; simp only [List.set_cons_zero, List.set_cons_succ] at H; (try simp only [lay, List.take_zero, List.nil_append, List.length_cons, List.length_nil, Nat.zero_add, Nat.reduceAdd, List.drop_succ_cons, List.drop_zero, List.drop_nil, List.append_nil, List.take_succ_cons, List.cons_append] at H))
    | ((with_reducible refine gBx ?_); refine bxA H rfl rfl rfl ?_; clear H; intro b1 w1 H)
    | ((with_reducible refine gBs ?_); (first | (refine bs1 H rfl (by first | exact S22 | exact S54 | exact S61) rfl (Nat.le_of_ble_eq_true rfl) (Nat.le_of_ble_eq_true rfl) rfl ?_) | (refine wl_buildSlice0 rfl (by first | exact S22 | exact S54 | exact S61) H ?_)); clear H; intro b1 w1 H)
    | ((with_reducible refine gEq ?_); (first | (refine wl_cmp rfl rfl rfl rfl ?_) | (refine wl_scmp rfl rfl rfl rfl ?_)); intro rb hrb; cases rb <;> (first | (exfalso; simp at hrb; done) | ((try simp only [decide_eq_true_eq, decide_eq_false_iff_not, beq_iff_eq, beq_eq_false_iff_ne, ne_eq, bne_iff_ne, bne_eq_false_iff_eq, Bool.not_eq_true', Bool.not_eq_false', gt_iff_lt, ge_iff_le, Int.not_lt, Int.not_le, Decidable.not_not] at hrb); (try subst hrb); (try (exfalso; omega)))))
    | ((with_reducible refine gRg ?_); refine wp_region_text rfl (by decide +kernel) ?_; replace H := H.drew)
    | ((with_reducible refine EndQ.intro ?_ ?_); (· kernel_rfl)))
        all_goals (go_ret; exact ⟨rfl, _, H⟩)
      | false =>
        have hm2 : mf = m0 := by
          rw [← hmf]
          exact turnK_none fun j hj hc => by have := HTT.out.2 ⟨j, hj, hc⟩; cases this
        have hcmp : le (mf.drop l.length) 0 = (crc (mf.take l.length)).toNat := by
          rw [hm2, ← HM0.out, List.drop_left, List.take_left]; exact sum4_le _
        rw [← hfl, ← hfs] at hcmp
        have HCMP := Lib.hid hcmp
        clear hcmp hfl hfs hnm hkl hmf hm2
        go_wp2_with (first
    | (go_at_call 11; (with_reducible refine (live_spec H).mono ?_); rintro e w1 ⟨rfl, H1⟩; clear H; have H := H1; clear H1)
    | (go_at_call 10; (with_reducible refine (num_spec H _ (by omega) (by omega)).mono ?_); rintro e w1 ⟨rfl, H1⟩; clear H; have H := H1; clear H1)
    | (go_at_call 12; (with_reducible refine (Open_ok_at (l := h ++ mf) H (Rd.ent H (i := 0) rfl) (by omega) hcf HKL.out (by omega) hl (by omega) HNM.out HCMP.out).mono ?_); rintro e w1 ⟨ao, co, rfl, H1⟩; clear H; have H := H1; clear H1)
    | ((with_reducible refine gLd ?_); refine eLd H rfl rfl ?_; first | (refine kLdB 0 rfl rfl (by first | exact T3 | exact T5 | exact T22 | exact T23 | exact T24 | exact T33 | exact T38 | exact T9 | exact T2 | exact T4 | exact T54 | exact T69 | exact T66 | exact T72) rfl ?_; intro rb hrb; cases rb <;> (first | (exfalso; simp at hrb; done) | ((try simp only [decide_eq_true_eq, decide_eq_false_iff_not, beq_iff_eq, beq_eq_false_iff_ne, ne_eq, bne_iff_ne, bne_eq_false_iff_eq, Bool.not_eq_true', Bool.not_eq_false', gt_iff_lt, ge_iff_le, Int.not_lt, Int.not_le, Decidable.not_not] at hrb); (try subst hrb); (try (exfalso; omega))))) | (refine kLdB 1 rfl rfl (by first | exact T3 | exact T5 | exact T22 | exact T23 | exact T24 | exact T33 | exact T38 | exact T9 | exact T2 | exact T4 | exact T54 | exact T69 | exact T66 | exact T72) rfl ?_; intro rb hrb; cases rb <;> (first | (exfalso; simp at hrb; done) | ((try simp only [decide_eq_true_eq, decide_eq_false_iff_not, beq_iff_eq, beq_eq_false_iff_ne, ne_eq, bne_iff_ne, bne_eq_false_iff_eq, Bool.not_eq_true', Bool.not_eq_false', gt_iff_lt, ge_iff_le, Int.not_lt, Int.not_le, Decidable.not_not] at hrb); (try subst hrb); (try (exfalso; omega))))) | (refine kLd 0 rfl rfl (by first | exact T3 | exact T5 | exact T22 | exact T23 | exact T24 | exact T33 | exact T38 | exact T9 | exact T2 | exact T4 | exact T54 | exact T69 | exact T66 | exact T72) rfl ?_) | (refine kLd 1 rfl rfl (by first | exact T3 | exact T5 | exact T22 | exact T23 | exact T24 | exact T33 | exact T38 | exact T9 | exact T2 | exact T4 | exact T54 | exact T69 | exact T66 | exact T72) rfl ?_) | (refine kLdA 0 rfl rfl (by first | exact T3 | exact T5 | exact T22 | exact T23 | exact T24 | exact T33 | exact T38 | exact T9 | exact T2 | exact T4 | exact T54 | exact T69 | exact T66 | exact T72) (Nat.le_of_ble_eq_true rfl) (by simp only [eR, eB, List.drop_succ_cons, List.drop_zero, List.take_succ_cons, List.take_zero, List.set_cons_zero, List.set_cons_succ]; rfl) ?_) | (refine kLdA 1 rfl rfl (by first | exact T3 | exact T5 | exact T22 | exact T23 | exact T24 | exact T33 | exact T38 | exact T9 | exact T2 | exact T4 | exact T54 | exact T69 | exact T66 | exact T72) (Nat.le_of_ble_eq_true rfl) (by simp only [eR, eB, List.drop_succ_cons, List.drop_zero, List.take_succ_cons, List.take_zero, List.set_cons_zero, List.set_cons_succ]; rfl) ?_))
    | ((with_reducible refine gSt ?_); (first | (refine eSt H rfl rfl ⟨.int _ _, rfl, ?_⟩) | (refine eSt H rfl rfl ⟨.bool _, rfl, ?_⟩) | (refine eSt H rfl rfl ⟨.slice _ _ _, rfl, ?_⟩) | (refine eSt H rfl rfl ⟨.pointer _, rfl, ?_⟩) | (refine eSt H rfl rfl ⟨.string _, rfl, ?_⟩) | (refine eSt H rfl rfl ⟨.agg (List.toArray _), rfl, ?_⟩)); (first | (refine kSt 0 rfl rfl (by first | exact T3 | exact T5 | exact T22 | exact T23 | exact T24 | exact T33 | exact T38 | exact T9 | exact T2 | exact T4 | exact T54 | exact T69 | exact T66 | exact T72) rfl (Nat.le_of_ble_eq_true rfl) ?_) | (refine kSt 1 rfl rfl (by first | exact T3 | exact T5 | exact T22 | exact T23 | exact T24 | exact T33 | exact T38 | exact T9 | exact T2 | exact T4 | exact T54 | exact T69 | exact T66 | exact T72) rfl (Nat.le_of_ble_eq_true rfl) ?_) | (refine kStA 0 rfl rfl (by first | exact T3 | exact T5 | exact T22 | exact T23 | exact T24 | exact T33 | exact T38 | exact T9 | exact T2 | exact T4 | exact T54 | exact T69 | exact T66 | exact T72) rfl rfl (Nat.le_of_ble_eq_true rfl) ?_) | (refine kStA 1 rfl rfl (by first | exact T3 | exact T5 | exact T22 | exact T23 | exact T24 | exact T33 | exact T38 | exact T9 | exact T2 | exact T4 | exact T54 | exact T69 | exact T66 | exact T72) rfl rfl (Nat.le_of_ble_eq_true rfl) ?_)); clear H; intro w1 H; simp only [List.set_cons_zero, List.set_cons_succ] at H; (try simp only [lay, List.take_zero, List.nil_append, List.length_cons, List.length_nil, Nat.zero_add, Nat.reduceAdd, List.drop_succ_cons, List.drop_zero, List.drop_nil, List.append_nil, List.take_succ_cons, List.cons_append] at H))
    | ((with_reducible refine gBx ?_); refine bxA H rfl rfl rfl ?_; clear H; intro b1 w1 H)
    | ((with_reducible refine gBs ?_); (first | (refine bs1 H rfl (by first | exact S22 | exact S54 | exact S61) rfl (Nat.le_of_ble_eq_true rfl) (Nat.le_of_ble_eq_true rfl) rfl ?_) | (refine wl_buildSlice0 rfl (by first | exact S22 | exact S54 | exact S61) H ?_)); clear H; intro b1 w1 H)
    | ((with_reducible refine gEq ?_); (first | (refine wl_cmp rfl rfl rfl rfl ?_) | (refine wl_scmp rfl rfl rfl rfl ?_)); intro rb hrb; cases rb <;> (first | (exfalso; simp at hrb; done) | ((try simp only [decide_eq_true_eq, decide_eq_false_iff_not, beq_iff_eq, beq_eq_false_iff_ne, ne_eq, bne_iff_ne, bne_eq_false_iff_eq, Bool.not_eq_true', Bool.not_eq_false', gt_iff_lt, ge_iff_le, Int.not_lt, Int.not_le, Decidable.not_not] at hrb); (try subst hrb); (try (exfalso; omega)))))
    | ((with_reducible refine gRg ?_); refine wp_region_text rfl (by decide +kernel) ?_; replace H := H.drew)
    | ((with_reducible refine EndQ.intro ?_ ?_); (· kernel_rfl)))
        all_goals (go_ret; exact ⟨rfl, _, H⟩)
set_option maxHeartbeats 8000000 in
theorem Turned_pos {w0 w : World} {D : Nat → Prop} {R : List Ent} {a0 : Nat} {X : UInt32} {x : Option Addr} {c : Nat} {l : List UInt8} (H : Hp w0 D (R) w) (hX : Rd w0 D R x (bs l)) (ha1 : a0 < 9223372036854775808) (hl : l.length ≤ 4096) (hm : ¬ (X.toNat : Int) = 0) :
    Calls Try.prog 3 #[.slice x l.length c, .int .i64 (a0 : Int), .int .u32 (X.toNat : Int)] w fun e w' => e = .returned (.bool true) ∧ ∃ L, Hp w0 D L w' := by
  have HX := Lib.hid hX
  clear hX
  obtain ⟨s, hs⟩ : ∃ s, seal_ l = s := ⟨_, rfl⟩
  obtain ⟨k, hk⟩ : ∃ k, s.length = k := ⟨_, rfl⟩
  have hk1 : l.length + 5 ≤ k := (by rw [← hk, ← hs, seal_len]; have := enc_len1 l.length; omega)
  have hk2 : k ≤ l.length + 14 := (by rw [← hk, ← hs, seal_len]; have := enc_len_le (n := l.length) (by omega); omega)
  have HS := Lib.hid hs
  have HK := Lib.hid hk
  clear hs hk
  obtain ⟨h, hh⟩ : ∃ h, enc l.length = h := ⟨_, rfl⟩
  obtain ⟨m0, hm0⟩ : ∃ m, l ++ sum4 (crc l) = m := ⟨_, rfl⟩
  have hsm : s = h ++ m0 := (by rw [← HS.out, ← hh, ← hm0, seal_, List.append_assoc])
  have hml : m0.length = l.length + 4 := (by rw [← hm0]; simp [sum4])
  obtain ⟨hn, hhn⟩ : ∃ hn, h.length = hn := ⟨_, rfl⟩
  have hhl : hn + l.length + 4 = k := (by rw [← HK.out, hsm, List.length_append, hml]; omega)
  have hh10 : hn ≤ 10 := (by rw [← hhn, ← hh]; exact enc_len_le (by omega))
  obtain ⟨k1, hk3⟩ : ∃ k1, k - l.length = k1 := ⟨_, rfl⟩
  have hsb1 : IntKind.i64.wrap ((k : Int) - (l.length : Int)) = (k1 : Int) := (by rw [IntKind.wrap_i64]; omega)
  have hsb2 : IntKind.i64.wrap ((k1 : Int) - 4) = (hn : Int) := (by rw [IntKind.wrap_i64]; omega)
  obtain ⟨l4, hl4⟩ : ∃ l4, l.length + 4 = l4 := ⟨_, rfl⟩
  obtain ⟨nb, hnb⟩ : ∃ nb, 8 * l4 = nb := ⟨_, rfl⟩
  obtain ⟨p, hp⟩ : ∃ p, a0 % nb = p := ⟨_, rfl⟩
  have hpb : p < nb := (by rw [← hp]; exact Nat.mod_lt _ (by omega))
  have hnb1 : nb ≤ 32800 := by omega
  have hnb2 : 32 ≤ nb := by omega
  have hnb3 : nb = 8 * m0.length := by omega
  have hkk1 : hn + l.length + 4 ≤ k := by omega
  have hkk2 : k ≤ hn + l.length + 4 := by omega
  have hkb : l4 ≤ 4100 := by omega
  have hnbl1 : nb ≤ 8 * (l.length + 4) := by omega
  have hnbl2 : 8 * (l.length + 4) ≤ nb := by omega
  have HH := Lib.hid hh
  have HM0 := Lib.hid hm0
  have HSM := Lib.hid hsm
  have HP := Lib.hid hp
  have HL4 := Lib.hid hl4
  have HNB := Lib.hid hnb
  have HSB1 := Lib.hid hsb1
  have HSB2 := Lib.hid hsb2
  have HNB3 := Lib.hid hnb3
  have HML := Lib.hid hml
  have HHN := Lib.hid hhn
  clear hh hm0 hsm hp hnb hml hnb3 hl4 hsb1 hsb2 hk3 hhl hhn
  try simp only [eR, eB] at H
  try simp only [eR, eB]
  go_enter Try.func3, Try.ntmps3
  go_wp2_with (first
    | ((with_reducible refine gAp ?_); refine wl_appendR 0 (news := bs l) rfl H rfl rfl rfl rfl S22 (by decide) rfl rfl rfl (fun h => HX.out.nil h) (bs_length _) (bs_one _) (HX.out.news [_] H) (by unfold maxLen; omega) (by omega) ?_; clear H; intro b1 c1 w1 H; simp only [List.set_cons_zero, List.set_cons_succ, List.nil_append, Nat.mul_one, Nat.zero_add] at H)
    | (go_at_call 11; (with_reducible refine (live_spec H).mono ?_); rintro e w1 ⟨rfl, H1⟩; clear H; have H := H1; clear H1)
    | (go_at_call 10; (with_reducible refine (num_spec H _ (by omega) (by omega)).mono ?_); rintro e w1 ⟨rfl, H1⟩; clear H; have H := H1; clear H1)
    | (go_at_call 9; (with_reducible refine (Seal_at (l := l) H (Rd.ent H (i := 0) rfl) (by omega) rfl HS.out HK.out).mono ?_); rintro e w1 ⟨af, cf, rfl, H1⟩; clear H; have H := H1; clear H1)
    | ((with_reducible refine gEq ?_); first | (refine wl_run rfl (run_subI (r := (k1 : Int)) rfl rfl HSB1.out) ?_) | (refine wl_run rfl (run_subI (r := (hn : Int)) rfl rfl HSB2.out) ?_))
    | ((with_reducible refine gEq ?_); refine wl_run rfl (run_divU (m := a0) (n := nb) (r := p) rfl rfl (by omega) (conv_i64 (by omega) (by omega)) (fun j hj => conv_i64 (by omega) (by omega)) (.inr ⟨rfl, HP.out.symm⟩)) ?_)
    | ((with_reducible refine gEq ?_); refine wl_bit rfl rfl (by first | exact .inl rfl | exact .inr (.inl rfl) | exact .inr (.inr rfl)) (by first | with_reducible exact baddC (c := 4) rfl HL4.out (by omega) | with_reducible exact bmulN HNB.out (by omega)) rfl ?_)
    | ((with_reducible refine gLd ?_); refine eLd H rfl rfl ?_; first | (refine kLdB 0 rfl rfl (by first | exact T3 | exact T5 | exact T22 | exact T23 | exact T24 | exact T33 | exact T38 | exact T9 | exact T2 | exact T4 | exact T54 | exact T69 | exact T66 | exact T72) rfl ?_; intro rb hrb; cases rb <;> (first | (exfalso; simp at hrb; done) | ((try simp only [decide_eq_true_eq, decide_eq_false_iff_not, beq_iff_eq, beq_eq_false_iff_ne, ne_eq, bne_iff_ne, bne_eq_false_iff_eq, Bool.not_eq_true', Bool.not_eq_false', gt_iff_lt, ge_iff_le, Int.not_lt, Int.not_le, Decidable.not_not] at hrb); (try subst hrb); (try (exfalso; omega))))) | (refine kLdB 1 rfl rfl (by first | exact T3 | exact T5 | exact T22 | exact T23 | exact T24 | exact T33 | exact T38 | exact T9 | exact T2 | exact T4 | exact T54 | exact T69 | exact T66 | exact T72) rfl ?_; intro rb hrb; cases rb <;> (first | (exfalso; simp at hrb; done) | ((try simp only [decide_eq_true_eq, decide_eq_false_iff_not, beq_iff_eq, beq_eq_false_iff_ne, ne_eq, bne_iff_ne, bne_eq_false_iff_eq, Bool.not_eq_true', Bool.not_eq_false', gt_iff_lt, ge_iff_le, Int.not_lt, Int.not_le, Decidable.not_not] at hrb); (try subst hrb); (try (exfalso; omega))))) | (refine kLd 0 rfl rfl (by first | exact T3 | exact T5 | exact T22 | exact T23 | exact T24 | exact T33 | exact T38 | exact T9 | exact T2 | exact T4 | exact T54 | exact T69 | exact T66 | exact T72) rfl ?_) | (refine kLd 1 rfl rfl (by first | exact T3 | exact T5 | exact T22 | exact T23 | exact T24 | exact T33 | exact T38 | exact T9 | exact T2 | exact T4 | exact T54 | exact T69 | exact T66 | exact T72) rfl ?_) | (refine kLdA 0 rfl rfl (by first | exact T3 | exact T5 | exact T22 | exact T23 | exact T24 | exact T33 | exact T38 | exact T9 | exact T2 | exact T4 | exact T54 | exact T69 | exact T66 | exact T72) (Nat.le_of_ble_eq_true rfl) (by simp only [eR, eB, List.drop_succ_cons, List.drop_zero, List.take_succ_cons, List.take_zero, List.set_cons_zero, List.set_cons_succ]; rfl) ?_) | (refine kLdA 1 rfl rfl (by first | exact T3 | exact T5 | exact T22 | exact T23 | exact T24 | exact T33 | exact T38 | exact T9 | exact T2 | exact T4 | exact T54 | exact T69 | exact T66 | exact T72) (Nat.le_of_ble_eq_true rfl) (by simp only [eR, eB, List.drop_succ_cons, List.drop_zero, List.take_succ_cons, List.take_zero, List.set_cons_zero, List.set_cons_succ]; rfl) ?_))
    | ((with_reducible refine gSt ?_); (first | (refine eSt H rfl rfl ⟨.int _ _, rfl, ?_⟩) | (refine eSt H rfl rfl ⟨.bool _, rfl, ?_⟩) | (refine eSt H rfl rfl ⟨.slice _ _ _, rfl, ?_⟩) | (refine eSt H rfl rfl ⟨.pointer _, rfl, ?_⟩) | (refine eSt H rfl rfl ⟨.string _, rfl, ?_⟩) | (refine eSt H rfl rfl ⟨.agg (List.toArray _), rfl, ?_⟩)); (first | (refine kSt 0 rfl rfl (by first | exact T3 | exact T5 | exact T22 | exact T23 | exact T24 | exact T33 | exact T38 | exact T9 | exact T2 | exact T4 | exact T54 | exact T69 | exact T66 | exact T72) rfl (Nat.le_of_ble_eq_true rfl) ?_) | (refine kSt 1 rfl rfl (by first | exact T3 | exact T5 | exact T22 | exact T23 | exact T24 | exact T33 | exact T38 | exact T9 | exact T2 | exact T4 | exact T54 | exact T69 | exact T66 | exact T72) rfl (Nat.le_of_ble_eq_true rfl) ?_) | (refine kStA 0 rfl rfl (by first | exact T3 | exact T5 | exact T22 | exact T23 | exact T24 | exact T33 | exact T38 | exact T9 | exact T2 | exact T4 | exact T54 | exact T69 | exact T66 | exact T72) rfl rfl (Nat.le_of_ble_eq_true rfl) ?_) | (refine kStA 1 rfl rfl (by first | exact T3 | exact T5 | exact T22 | exact T23 | exact T24 | exact T33 | exact T38 | exact T9 | exact T2 | exact T4 | exact T54 | exact T69 | exact T66 | exact T72) rfl rfl (Nat.le_of_ble_eq_true rfl) ?_)); clear H; intro w1 H; simp only [List.set_cons_zero, List.set_cons_succ] at H; (try simp only [lay, List.take_zero, List.nil_append, List.length_cons, List.length_nil, Nat.zero_add, Nat.reduceAdd, List.drop_succ_cons, List.drop_zero, List.drop_nil, List.append_nil, List.take_succ_cons, List.cons_append] at H))
    | ((with_reducible refine gBx ?_); refine bxA H rfl rfl rfl ?_; clear H; intro b1 w1 H)
    | ((with_reducible refine gBs ?_); (first | (refine bs1 H rfl (by first | exact S22 | exact S54 | exact S61) rfl (Nat.le_of_ble_eq_true rfl) (Nat.le_of_ble_eq_true rfl) rfl ?_) | (refine wl_buildSlice0 rfl (by first | exact S22 | exact S54 | exact S61) H ?_)); clear H; intro b1 w1 H)
    | ((with_reducible refine gEq ?_); (first | (refine wl_cmp rfl rfl rfl rfl ?_) | (refine wl_scmp rfl rfl rfl rfl ?_)); intro rb hrb; cases rb <;> (first | (exfalso; simp at hrb; done) | ((try simp only [decide_eq_true_eq, decide_eq_false_iff_not, beq_iff_eq, beq_eq_false_iff_ne, ne_eq, bne_iff_ne, bne_eq_false_iff_eq, Bool.not_eq_true', Bool.not_eq_false', gt_iff_lt, ge_iff_le, Int.not_lt, Int.not_le, Decidable.not_not] at hrb); (try subst hrb); (try (exfalso; omega)))))
    | ((with_reducible refine gRg ?_); refine wp_region_text rfl (by decide +kernel) ?_; replace H := H.drew)
    | ((with_reducible refine EndQ.intro ?_ ?_); (· kernel_rfl)))
  rw [HSM.out] at H
  obtain ⟨bf, rfl⟩ := H.some_of (i := 0) rfl (by dsimp only; rw [bs_len, List.length_append, HHN.out, HML.out]; omega)
  go_loopg [11, 12] 32 (fun g v11 v12 wr => ∃ (kk : Nat) (tb : Bool), kk + g = 32 ∧ v11 = .bool tb ∧ v12 = .int .i64 (kk : Int) ∧ TurnI X p m0 kk tb ∧ Hp w0 D (eB (some bf) cf (h ++ turnK X p m0 kk) :: eB (some b1) c1 l :: R) wr)
  case atStart => exact ⟨0, false, by omega, rfl, rfl, TurnI.zero, H⟩
  case round =>
    clear H
    obtain ⟨kk, tb, hkg, rfl, rfl, hT, H⟩ := hrel
    have HTT := Lib.hid hT
    clear hT
    by_cases hk : kk < 32
    · have HG := Lib.hid hkg
      clear hkg
      have hgp : 0 < gk := by have := HG.out; omega
      obtain ⟨y, hy⟩ : ∃ y, X >>> UInt32.ofNat kk = y := ⟨_, rfl⟩
      obtain ⟨z, hz⟩ : ∃ z, y &&& 1 = z := ⟨_, rfl⟩
      obtain ⟨pk, hpk⟩ : ∃ pk, p + kk = pk := ⟨_, rfl⟩
      have hbit := mask_bit hk hy hz
      have hpk1 : pk ≤ p + kk := Nat.le_of_eq hpk.symm
      have hpk2 : p + kk ≤ pk := Nat.le_of_eq hpk
      have HY := Lib.hid hy
      have HZ := Lib.hid hz
      have HPK := Lib.hid hpk
      clear hy hz hpk
      by_cases hb : X.toBitVec.getLsbD kk = true
      · have hv : (z.toNat : Int) = 1 := by rw [hbit.2 hb]; rfl
        have HB := Lib.hid hb
        clear hb hbit
        by_cases hpn : pk < nb
        · obtain ⟨q, hq⟩ : ∃ q, pk / 8 = q := ⟨_, rfl⟩
          obtain ⟨j, hj⟩ : ∃ j, pk % 8 = j := ⟨_, rfl⟩
          obtain ⟨ix, hix⟩ : ∃ ix, hn + q = ix := ⟨_, rfl⟩
          have hq1 : q < l.length + 4 := by omega
          have hj8 : j < 8 := by omega
          have hix2 : ix < k := by omega
          have hlen : (turnK X p m0 kk).length = l.length + 4 := by rw [turnK_len, HML.out]
          obtain ⟨ch, hch⟩ : ∃ ch, (turnK X p m0 kk)[q]? = some ch := ⟨_, List.getElem?_eq_getElem (by omega)⟩
          obtain ⟨bv, hbv⟩ : ∃ bv, (1 : UInt8) <<< UInt8.ofNat j = bv := ⟨_, rfl⟩
          obtain ⟨v, hvv⟩ : ∃ v, ch ^^^ bv = v := ⟨_, rfl⟩
          have hC : (h ++ turnK X p m0 kk)[ix]? = some ch := by
            rw [← hix, ← HHN.out, List.getElem?_append_right (by omega), Nat.add_sub_cancel_left]; exact hch
          have hrow : (h ++ turnK X p m0 kk).set ix v = h ++ turnK X p m0 (kk + 1) := by
            have h9 := turn_row (h := h) (m := turnK X p m0 kk) hq hj hch hbv hvv
            rw [HHN.out, hix] at h9
            rw [h9, turnK, if_pos ⟨HB.out, by have := HPK.out; have := HNB3.out; omega⟩, HPK.out]
          have hFl : (h ++ turnK X p m0 kk).length = k := by rw [List.length_append, HHN.out, hlen]; omega
          have HC := Lib.hid (bs_get hC)
          have HROW := Lib.hid hrow
          have HQ := Lib.hid hq
          have HJ := Lib.hid hj
          have HIX := Lib.hid hix
          have HBV := Lib.hid hbv
          have HV := Lib.hid hvv
          have HFL := Lib.hid hFl
          have HWP := Lib.hid (wrapN (m := pk) (by omega) pk (Nat.le_refl _))
          have HWJ := Lib.hid (wrapN (m := pk) (by omega))
          have hcf : k ≤ cf := by have h5 := H.le (i := 0) rfl; dsimp only at h5; rw [bs_len, HFL.out] at h5; exact h5
          clear hC hrow hq hj hix hbv hvv hFl hch hlen
          
          go_wp2_with (first
    | ((with_reducible refine gLd ?_); refine eLd H rfl rfl ?_; refine kLd 0 rfl rfl T5 HC.out ?_)
    | ((with_reducible refine gSt ?_); refine eSt H rfl rfl ⟨.int _ _, rfl, ?_⟩; refine kSt 0 rfl rfl T5 rfl ?_ ?_; (· (dsimp only; rw [bs_len, HFL.out]; omega)); clear H; intro w1 H; simp only [List.set_cons_zero, List.set_cons_succ] at H; rw [bs_set] at H)
    | ((with_reducible refine gEq ?_); first | (refine wl_run rfl (run_divU (m := pk) (n := 8) (r := q) rfl rfl (by decide) HWP.out HWJ.out (.inl ⟨rfl, HQ.out.symm⟩)) ?_) | (refine wl_run rfl (run_divU (m := pk) (n := 8) (r := j) rfl rfl (by decide) HWP.out HWJ.out (.inr ⟨rfl, HJ.out.symm⟩)) ?_))
    | ((with_reducible refine gCv ?_); refine wl_cvI rfl Try.underlying3 Try.underlying29 (by first | with_reducible exact conv_u64 (by omega) (by omega)) rfl ?_)
    | ((with_reducible refine gEq ?_); refine wl_bit rfl rfl (by first | exact .inl rfl | exact .inr (.inl rfl) | exact .inr (.inr rfl)) (by first | with_reducible exact bshrK hk HY.out | with_reducible exact band1 HZ.out | with_reducible exact baddN HPK.out (by omega) | with_reducible exact baddN HIX.out (by omega) | with_reducible exact bshl8K hj8 HBV.out | with_reducible exact bxor8K HV.out) rfl ?_)
    | ((with_reducible refine gLd ?_); refine eLd H rfl rfl ?_; first | (refine kLdB 0 rfl rfl (by first | exact T3 | exact T5 | exact T22 | exact T23 | exact T24 | exact T33 | exact T38 | exact T9 | exact T2 | exact T4 | exact T54 | exact T69 | exact T66 | exact T72) rfl ?_; intro rb hrb; cases rb <;> (first | (exfalso; simp at hrb; done) | ((try simp only [decide_eq_true_eq, decide_eq_false_iff_not, beq_iff_eq, beq_eq_false_iff_ne, ne_eq, bne_iff_ne, bne_eq_false_iff_eq, Bool.not_eq_true', Bool.not_eq_false', gt_iff_lt, ge_iff_le, Int.not_lt, Int.not_le, Decidable.not_not] at hrb); (try subst hrb); (try (exfalso; omega))))) | (refine kLdB 1 rfl rfl (by first | exact T3 | exact T5 | exact T22 | exact T23 | exact T24 | exact T33 | exact T38 | exact T9 | exact T2 | exact T4 | exact T54 | exact T69 | exact T66 | exact T72) rfl ?_; intro rb hrb; cases rb <;> (first | (exfalso; simp at hrb; done) | ((try simp only [decide_eq_true_eq, decide_eq_false_iff_not, beq_iff_eq, beq_eq_false_iff_ne, ne_eq, bne_iff_ne, bne_eq_false_iff_eq, Bool.not_eq_true', Bool.not_eq_false', gt_iff_lt, ge_iff_le, Int.not_lt, Int.not_le, Decidable.not_not] at hrb); (try subst hrb); (try (exfalso; omega))))) | (refine kLd 0 rfl rfl (by first | exact T3 | exact T5 | exact T22 | exact T23 | exact T24 | exact T33 | exact T38 | exact T9 | exact T2 | exact T4 | exact T54 | exact T69 | exact T66 | exact T72) rfl ?_) | (refine kLd 1 rfl rfl (by first | exact T3 | exact T5 | exact T22 | exact T23 | exact T24 | exact T33 | exact T38 | exact T9 | exact T2 | exact T4 | exact T54 | exact T69 | exact T66 | exact T72) rfl ?_) | (refine kLdA 0 rfl rfl (by first | exact T3 | exact T5 | exact T22 | exact T23 | exact T24 | exact T33 | exact T38 | exact T9 | exact T2 | exact T4 | exact T54 | exact T69 | exact T66 | exact T72) (Nat.le_of_ble_eq_true rfl) (by simp only [eR, eB, List.drop_succ_cons, List.drop_zero, List.take_succ_cons, List.take_zero, List.set_cons_zero, List.set_cons_succ]; rfl) ?_) | (refine kLdA 1 rfl rfl (by first | exact T3 | exact T5 | exact T22 | exact T23 | exact T24 | exact T33 | exact T38 | exact T9 | exact T2 | exact T4 | exact T54 | exact T69 | exact T66 | exact T72) (Nat.le_of_ble_eq_true rfl) (by simp only [eR, eB, List.drop_succ_cons, List.drop_zero, List.take_succ_cons, List.take_zero, List.set_cons_zero, List.set_cons_succ]; rfl) ?_))
    | ((with_reducible refine gSt ?_); (first | (refine eSt H rfl rfl ⟨.int _ _, rfl, ?_⟩) | (refine eSt H rfl rfl ⟨.bool _, rfl, ?_⟩) | (refine eSt H rfl rfl ⟨.slice _ _ _, rfl, ?_⟩) | (refine eSt H rfl rfl ⟨.pointer _, rfl, ?_⟩) | (refine eSt H rfl rfl ⟨.string _, rfl, ?_⟩) | (refine eSt H rfl rfl ⟨.agg (List.toArray _), rfl, ?_⟩)); (first | (refine kSt 0 rfl rfl (by first | exact T3 | exact T5 | exact T22 | exact T23 | exact T24 | exact T33 | exact T38 | exact T9 | exact T2 | exact T4 | exact T54 | exact T69 | exact T66 | exact T72) rfl (Nat.le_of_ble_eq_true rfl) ?_) | (refine kSt 1 rfl rfl (by first | exact T3 | exact T5 | exact T22 | exact T23 | exact T24 | exact T33 | exact T38 | exact T9 | exact T2 | exact T4 | exact T54 | exact T69 | exact T66 | exact T72) rfl (Nat.le_of_ble_eq_true rfl) ?_) | (refine kStA 0 rfl rfl (by first | exact T3 | exact T5 | exact T22 | exact T23 | exact T24 | exact T33 | exact T38 | exact T9 | exact T2 | exact T4 | exact T54 | exact T69 | exact T66 | exact T72) rfl rfl (Nat.le_of_ble_eq_true rfl) ?_) | (refine kStA 1 rfl rfl (by first | exact T3 | exact T5 | exact T22 | exact T23 | exact T24 | exact T33 | exact T38 | exact T9 | exact T2 | exact T4 | exact T54 | exact T69 | exact T66 | exact T72) rfl rfl (Nat.le_of_ble_eq_true rfl) ?_)); clear H; intro w1 H; simp only [List.set_cons_zero, List.set_cons_succ] at H; (try simp only [lay, List.take_zero, List.nil_append, List.length_cons, List.length_nil, Nat.zero_add, Nat.reduceAdd, List.drop_succ_cons, List.drop_zero, List.drop_nil, List.append_nil, List.take_succ_cons, List.cons_append] at H))
    | ((with_reducible refine gBx ?_); refine bxA H rfl rfl rfl ?_; clear H; intro b1 w1 H)
    | ((with_reducible refine gBs ?_); (first | (refine bs1 H rfl (by first | exact S22 | exact S54 | exact S61) rfl (Nat.le_of_ble_eq_true rfl) (Nat.le_of_ble_eq_true rfl) rfl ?_) | (refine wl_buildSlice0 rfl (by first | exact S22 | exact S54 | exact S61) H ?_)); clear H; intro b1 w1 H)
    | ((with_reducible refine gEq ?_); (first | (refine wl_cmp rfl rfl rfl rfl ?_) | (refine wl_scmp rfl rfl rfl rfl ?_)); intro rb hrb; cases rb <;> (first | (exfalso; simp at hrb; done) | ((try simp only [decide_eq_true_eq, decide_eq_false_iff_not, beq_iff_eq, beq_eq_false_iff_ne, ne_eq, bne_iff_ne, bne_eq_false_iff_eq, Bool.not_eq_true', Bool.not_eq_false', gt_iff_lt, ge_iff_le, Int.not_lt, Int.not_le, Decidable.not_not] at hrb); (try subst hrb); (try (exfalso; omega)))))
    | ((with_reducible refine gRg ?_); refine wp_region_text rfl (by decide +kernel) ?_; replace H := H.drew)
    | ((with_reducible refine EndQ.intro ?_ ?_); (· kernel_rfl)))
          go_roundg (gk - 1)
          case measure => omega
          case rel => exact ⟨kk + 1, true, by have := HG.out; omega, rfl, by go_num, TurnI.yes HB.out (by have := HNB3.out; omega), HROW.out ▸ H⟩
        · have hrow : turnK X p m0 (kk + 1) = turnK X p m0 kk := by rw [turnK, if_neg (by have := HNB3.out; omega)]
          have HROW := Lib.hid hrow
          clear hrow
          
          go_wp2_with (first
    | ((with_reducible refine gLd ?_); refine eLd H rfl rfl ?_; refine kLd 0 rfl rfl T5 HC.out ?_)
    | ((with_reducible refine gSt ?_); refine eSt H rfl rfl ⟨.int _ _, rfl, ?_⟩; refine kSt 0 rfl rfl T5 rfl ?_ ?_; (· (dsimp only; rw [bs_len, HFL.out]; omega)); clear H; intro w1 H; simp only [List.set_cons_zero, List.set_cons_succ] at H; rw [bs_set] at H)
    | ((with_reducible refine gEq ?_); first | (refine wl_run rfl (run_divU (m := pk) (n := 8) (r := q) rfl rfl (by decide) HWP.out HWJ.out (.inl ⟨rfl, HQ.out.symm⟩)) ?_) | (refine wl_run rfl (run_divU (m := pk) (n := 8) (r := j) rfl rfl (by decide) HWP.out HWJ.out (.inr ⟨rfl, HJ.out.symm⟩)) ?_))
    | ((with_reducible refine gCv ?_); refine wl_cvI rfl Try.underlying3 Try.underlying29 (by first | with_reducible exact conv_u64 (by omega) (by omega)) rfl ?_)
    | ((with_reducible refine gEq ?_); refine wl_bit rfl rfl (by first | exact .inl rfl | exact .inr (.inl rfl) | exact .inr (.inr rfl)) (by first | with_reducible exact bshrK hk HY.out | with_reducible exact band1 HZ.out | with_reducible exact baddN HPK.out (by omega)) rfl ?_)
    | ((with_reducible refine gLd ?_); refine eLd H rfl rfl ?_; first | (refine kLdB 0 rfl rfl (by first | exact T3 | exact T5 | exact T22 | exact T23 | exact T24 | exact T33 | exact T38 | exact T9 | exact T2 | exact T4 | exact T54 | exact T69 | exact T66 | exact T72) rfl ?_; intro rb hrb; cases rb <;> (first | (exfalso; simp at hrb; done) | ((try simp only [decide_eq_true_eq, decide_eq_false_iff_not, beq_iff_eq, beq_eq_false_iff_ne, ne_eq, bne_iff_ne, bne_eq_false_iff_eq, Bool.not_eq_true', Bool.not_eq_false', gt_iff_lt, ge_iff_le, Int.not_lt, Int.not_le, Decidable.not_not] at hrb); (try subst hrb); (try (exfalso; omega))))) | (refine kLdB 1 rfl rfl (by first | exact T3 | exact T5 | exact T22 | exact T23 | exact T24 | exact T33 | exact T38 | exact T9 | exact T2 | exact T4 | exact T54 | exact T69 | exact T66 | exact T72) rfl ?_; intro rb hrb; cases rb <;> (first | (exfalso; simp at hrb; done) | ((try simp only [decide_eq_true_eq, decide_eq_false_iff_not, beq_iff_eq, beq_eq_false_iff_ne, ne_eq, bne_iff_ne, bne_eq_false_iff_eq, Bool.not_eq_true', Bool.not_eq_false', gt_iff_lt, ge_iff_le, Int.not_lt, Int.not_le, Decidable.not_not] at hrb); (try subst hrb); (try (exfalso; omega))))) | (refine kLd 0 rfl rfl (by first | exact T3 | exact T5 | exact T22 | exact T23 | exact T24 | exact T33 | exact T38 | exact T9 | exact T2 | exact T4 | exact T54 | exact T69 | exact T66 | exact T72) rfl ?_) | (refine kLd 1 rfl rfl (by first | exact T3 | exact T5 | exact T22 | exact T23 | exact T24 | exact T33 | exact T38 | exact T9 | exact T2 | exact T4 | exact T54 | exact T69 | exact T66 | exact T72) rfl ?_) | (refine kLdA 0 rfl rfl (by first | exact T3 | exact T5 | exact T22 | exact T23 | exact T24 | exact T33 | exact T38 | exact T9 | exact T2 | exact T4 | exact T54 | exact T69 | exact T66 | exact T72) (Nat.le_of_ble_eq_true rfl) (by simp only [eR, eB, List.drop_succ_cons, List.drop_zero, List.take_succ_cons, List.take_zero, List.set_cons_zero, List.set_cons_succ]; rfl) ?_) | (refine kLdA 1 rfl rfl (by first | exact T3 | exact T5 | exact T22 | exact T23 | exact T24 | exact T33 | exact T38 | exact T9 | exact T2 | exact T4 | exact T54 | exact T69 | exact T66 | exact T72) (Nat.le_of_ble_eq_true rfl) (by simp only [eR, eB, List.drop_succ_cons, List.drop_zero, List.take_succ_cons, List.take_zero, List.set_cons_zero, List.set_cons_succ]; rfl) ?_))
    | ((with_reducible refine gSt ?_); (first | (refine eSt H rfl rfl ⟨.int _ _, rfl, ?_⟩) | (refine eSt H rfl rfl ⟨.bool _, rfl, ?_⟩) | (refine eSt H rfl rfl ⟨.slice _ _ _, rfl, ?_⟩) | (refine eSt H rfl rfl ⟨.pointer _, rfl, ?_⟩) | (refine eSt H rfl rfl ⟨.string _, rfl, ?_⟩) | (refine eSt H rfl rfl ⟨.agg (List.toArray _), rfl, ?_⟩)); (first | (refine kSt 0 rfl rfl (by first | exact T3 | exact T5 | exact T22 | exact T23 | exact T24 | exact T33 | exact T38 | exact T9 | exact T2 | exact T4 | exact T54 | exact T69 | exact T66 | exact T72) rfl (Nat.le_of_ble_eq_true rfl) ?_) | (refine kSt 1 rfl rfl (by first | exact T3 | exact T5 | exact T22 | exact T23 | exact T24 | exact T33 | exact T38 | exact T9 | exact T2 | exact T4 | exact T54 | exact T69 | exact T66 | exact T72) rfl (Nat.le_of_ble_eq_true rfl) ?_) | (refine kStA 0 rfl rfl (by first | exact T3 | exact T5 | exact T22 | exact T23 | exact T24 | exact T33 | exact T38 | exact T9 | exact T2 | exact T4 | exact T54 | exact T69 | exact T66 | exact T72) rfl rfl (Nat.le_of_ble_eq_true rfl) ?_) | (refine kStA 1 rfl rfl (by first | exact T3 | exact T5 | exact T22 | exact T23 | exact T24 | exact T33 | exact T38 | exact T9 | exact T2 | exact T4 | exact T54 | exact T69 | exact T66 | exact T72) rfl rfl (Nat.le_of_ble_eq_true rfl) ?_)); clear H; intro w1 H; simp only [List.set_cons_zero, List.set_cons_succ] at H; (try simp only [lay, List.take_zero, List.nil_append, List.length_cons, List.length_nil, Nat.zero_add, Nat.reduceAdd, List.drop_succ_cons, List.drop_zero, List.drop_nil, List.append_nil, List.take_succ_cons, List.cons_append] at H))
    | ((with_reducible refine gBx ?_); refine bxA H rfl rfl rfl ?_; clear H; intro b1 w1 H)
    | ((with_reducible refine gBs ?_); (first | (refine bs1 H rfl (by first | exact S22 | exact S54 | exact S61) rfl (Nat.le_of_ble_eq_true rfl) (Nat.le_of_ble_eq_true rfl) rfl ?_) | (refine wl_buildSlice0 rfl (by first | exact S22 | exact S54 | exact S61) H ?_)); clear H; intro b1 w1 H)
    | ((with_reducible refine gEq ?_); (first | (refine wl_cmp rfl rfl rfl rfl ?_) | (refine wl_scmp rfl rfl rfl rfl ?_)); intro rb hrb; cases rb <;> (first | (exfalso; simp at hrb; done) | ((try simp only [decide_eq_true_eq, decide_eq_false_iff_not, beq_iff_eq, beq_eq_false_iff_ne, ne_eq, bne_iff_ne, bne_eq_false_iff_eq, Bool.not_eq_true', Bool.not_eq_false', gt_iff_lt, ge_iff_le, Int.not_lt, Int.not_le, Decidable.not_not] at hrb); (try subst hrb); (try (exfalso; omega)))))
    | ((with_reducible refine gRg ?_); refine wp_region_text rfl (by decide +kernel) ?_; replace H := H.drew)
    | ((with_reducible refine EndQ.intro ?_ ?_); (· kernel_rfl)))
          go_roundg (gk - 1)
          case measure => omega
          case rel => exact ⟨kk + 1, tb, by have := HG.out; omega, rfl, by go_num, HTT.out.no (by have := HNB3.out; omega), HROW.out.symm ▸ H⟩
      · have hv : ¬ (z.toNat : Int) = 1 := fun e => hb (hbit.1 (u32_one e))
        have hrow : turnK X p m0 (kk + 1) = turnK X p m0 kk := by rw [turnK, if_neg (fun e => hb e.1)]
        have HROW := Lib.hid hrow
        have HB := Lib.hid hb
        clear hrow hb hbit
        skip
        
        go_wp2_with (first
    | ((with_reducible refine gLd ?_); refine eLd H rfl rfl ?_; refine kLd 0 rfl rfl T5 HC.out ?_)
    | ((with_reducible refine gSt ?_); refine eSt H rfl rfl ⟨.int _ _, rfl, ?_⟩; refine kSt 0 rfl rfl T5 rfl ?_ ?_; (· (dsimp only; rw [bs_len, HFL.out]; omega)); clear H; intro w1 H; simp only [List.set_cons_zero, List.set_cons_succ] at H; rw [bs_set] at H)
    | ((with_reducible refine gEq ?_); first | (refine wl_run rfl (run_divU (m := pk) (n := 8) (r := q) rfl rfl (by decide) HWP.out HWJ.out (.inl ⟨rfl, HQ.out.symm⟩)) ?_) | (refine wl_run rfl (run_divU (m := pk) (n := 8) (r := j) rfl rfl (by decide) HWP.out HWJ.out (.inr ⟨rfl, HJ.out.symm⟩)) ?_))
    | ((with_reducible refine gCv ?_); refine wl_cvI rfl Try.underlying3 Try.underlying29 (by first | with_reducible exact conv_u64 (by omega) (by omega)) rfl ?_)
    | ((with_reducible refine gEq ?_); refine wl_bit rfl rfl (by first | exact .inl rfl | exact .inr (.inl rfl) | exact .inr (.inr rfl)) (by first | with_reducible exact bshrK hk HY.out | with_reducible exact band1 HZ.out | with_reducible exact baddN HPK.out (by omega)) rfl ?_)
    | ((with_reducible refine gLd ?_); refine eLd H rfl rfl ?_; first | (refine kLdB 0 rfl rfl (by first | exact T3 | exact T5 | exact T22 | exact T23 | exact T24 | exact T33 | exact T38 | exact T9 | exact T2 | exact T4 | exact T54 | exact T69 | exact T66 | exact T72) rfl ?_; intro rb hrb; cases rb <;> (first | (exfalso; simp at hrb; done) | ((try simp only [decide_eq_true_eq, decide_eq_false_iff_not, beq_iff_eq, beq_eq_false_iff_ne, ne_eq, bne_iff_ne, bne_eq_false_iff_eq, Bool.not_eq_true', Bool.not_eq_false', gt_iff_lt, ge_iff_le, Int.not_lt, Int.not_le, Decidable.not_not] at hrb); (try subst hrb); (try (exfalso; omega))))) | (refine kLdB 1 rfl rfl (by first | exact T3 | exact T5 | exact T22 | exact T23 | exact T24 | exact T33 | exact T38 | exact T9 | exact T2 | exact T4 | exact T54 | exact T69 | exact T66 | exact T72) rfl ?_; intro rb hrb; cases rb <;> (first | (exfalso; simp at hrb; done) | ((try simp only [decide_eq_true_eq, decide_eq_false_iff_not, beq_iff_eq, beq_eq_false_iff_ne, ne_eq, bne_iff_ne, bne_eq_false_iff_eq, Bool.not_eq_true', Bool.not_eq_false', gt_iff_lt, ge_iff_le, Int.not_lt, Int.not_le, Decidable.not_not] at hrb); (try subst hrb); (try (exfalso; omega))))) | (refine kLd 0 rfl rfl (by first | exact T3 | exact T5 | exact T22 | exact T23 | exact T24 | exact T33 | exact T38 | exact T9 | exact T2 | exact T4 | exact T54 | exact T69 | exact T66 | exact T72) rfl ?_) | (refine kLd 1 rfl rfl (by first | exact T3 | exact T5 | exact T22 | exact T23 | exact T24 | exact T33 | exact T38 | exact T9 | exact T2 | exact T4 | exact T54 | exact T69 | exact T66 | exact T72) rfl ?_) | (refine kLdA 0 rfl rfl (by first | exact T3 | exact T5 | exact T22 | exact T23 | exact T24 | exact T33 | exact T38 | exact T9 | exact T2 | exact T4 | exact T54 | exact T69 | exact T66 | exact T72) (Nat.le_of_ble_eq_true rfl) (by simp only [eR, eB, List.drop_succ_cons, List.drop_zero, List.take_succ_cons, List.take_zero, List.set_cons_zero, List.set_cons_succ]; rfl) ?_) | (refine kLdA 1 rfl rfl (by first | exact T3 | exact T5 | exact T22 | exact T23 | exact T24 | exact T33 | exact T38 | exact T9 | exact T2 | exact T4 | exact T54 | exact T69 | exact T66 | exact T72) (Nat.le_of_ble_eq_true rfl) (by simp only [eR, eB, List.drop_succ_cons, List.drop_zero, List.take_succ_cons, List.take_zero, List.set_cons_zero, List.set_cons_succ]; rfl) ?_))
    | ((with_reducible refine gSt ?_); (first | (refine eSt H rfl rfl ⟨.int _ _, rfl, ?_⟩) | (refine eSt H rfl rfl ⟨.bool _, rfl, ?_⟩) | (refine eSt H rfl rfl ⟨.slice _ _ _, rfl, ?_⟩) | (refine eSt H rfl rfl ⟨.pointer _, rfl, ?_⟩) | (refine eSt H rfl rfl ⟨.string _, rfl, ?_⟩) | (refine eSt H rfl rfl ⟨.agg (List.toArray _), rfl, ?_⟩)); (first | (refine kSt 0 rfl rfl (by first | exact T3 | exact T5 | exact T22 | exact T23 | exact T24 | exact T33 | exact T38 | exact T9 | exact T2 | exact T4 | exact T54 | exact T69 | exact T66 | exact T72) rfl (Nat.le_of_ble_eq_true rfl) ?_) | (refine kSt 1 rfl rfl (by first | exact T3 | exact T5 | exact T22 | exact T23 | exact T24 | exact T33 | exact T38 | exact T9 | exact T2 | exact T4 | exact T54 | exact T69 | exact T66 | exact T72) rfl (Nat.le_of_ble_eq_true rfl) ?_) | (refine kStA 0 rfl rfl (by first | exact T3 | exact T5 | exact T22 | exact T23 | exact T24 | exact T33 | exact T38 | exact T9 | exact T2 | exact T4 | exact T54 | exact T69 | exact T66 | exact T72) rfl rfl (Nat.le_of_ble_eq_true rfl) ?_) | (refine kStA 1 rfl rfl (by first | exact T3 | exact T5 | exact T22 | exact T23 | exact T24 | exact T33 | exact T38 | exact T9 | exact T2 | exact T4 | exact T54 | exact T69 | exact T66 | exact T72) rfl rfl (Nat.le_of_ble_eq_true rfl) ?_)); clear H; intro w1 H; simp only [List.set_cons_zero, List.set_cons_succ] at H; (try simp only [lay, List.take_zero, List.nil_append, List.length_cons, List.length_nil, Nat.zero_add, Nat.reduceAdd, List.drop_succ_cons, List.drop_zero, List.drop_nil, List.append_nil, List.take_succ_cons, List.cons_append] at H))
    | ((with_reducible refine gBx ?_); refine bxA H rfl rfl rfl ?_; clear H; intro b1 w1 H)
    | ((with_reducible refine gBs ?_); (first | (refine bs1 H rfl (by first | exact S22 | exact S54 | exact S61) rfl (Nat.le_of_ble_eq_true rfl) (Nat.le_of_ble_eq_true rfl) rfl ?_) | (refine wl_buildSlice0 rfl (by first | exact S22 | exact S54 | exact S61) H ?_)); clear H; intro b1 w1 H)
    | ((with_reducible refine gEq ?_); (first | (refine wl_cmp rfl rfl rfl rfl ?_) | (refine wl_scmp rfl rfl rfl rfl ?_)); intro rb hrb; cases rb <;> (first | (exfalso; simp at hrb; done) | ((try simp only [decide_eq_true_eq, decide_eq_false_iff_not, beq_iff_eq, beq_eq_false_iff_ne, ne_eq, bne_iff_ne, bne_eq_false_iff_eq, Bool.not_eq_true', Bool.not_eq_false', gt_iff_lt, ge_iff_le, Int.not_lt, Int.not_le, Decidable.not_not] at hrb); (try subst hrb); (try (exfalso; omega)))))
    | ((with_reducible refine gRg ?_); refine wp_region_text rfl (by decide +kernel) ?_; replace H := H.drew)
    | ((with_reducible refine EndQ.intro ?_ ?_); (· kernel_rfl)))
        go_roundg (gk - 1)
        case measure => omega
        case rel => exact ⟨kk + 1, tb, by have := HG.out; omega, rfl, by go_num, HTT.out.no (fun e => HB.out e.1), HROW.out.symm ▸ H⟩
    · obtain rfl : kk = 32 := by omega
      clear hkg
      obtain ⟨mf, hmf⟩ : ∃ mf, turnK X p m0 32 = mf := ⟨_, rfl⟩
      rw [hmf] at H
      have hmfl : mf.length = l.length + 4 := by rw [← hmf, turnK_len, HML.out]
      have hkl : k = (h ++ mf).length := by rw [List.length_append, HHN.out, hmfl]; omega
      have hnm : numM ((h ++ mf).drop 0) 0 0 = (hn, 0, l.length) := by rw [← HHN.out, ← HH.out]; exact frame_num hl mf
      have hfl : ((h ++ mf).drop hn).take l.length = mf.take l.length := by rw [← HHN.out, ← HH.out]; exact frame_load l.length mf
      have hfs : ((h ++ mf).drop (hn + l.length)).take 4 = mf.drop l.length := by rw [← HHN.out, ← HH.out]; exact frame_sum hmfl
      have HKL := Lib.hid hkl
      have HNM := Lib.hid hnm
      have hF1 : (h ++ mf).length ≤ k := Nat.le_of_eq hkl.symm
      have hF2 : k ≤ (h ++ mf).length := Nat.le_of_eq hkl
      have hcf : (h ++ mf).length ≤ cf := by have h5 := H.le (i := 0) rfl; dsimp only at h5; rw [bs_len] at h5; exact h5
      cases tb with
      | true =>
        obtain ⟨j, hj, hjb, hjn⟩ := HTT.out.1 rfl
        have hcmp := turned_told (mask := X) (at_ := p) (l := l) (m' := mf) (by omega) hj hjb (by have := HML.out; omega) (by rw [HM0.out]; exact hmf)
        rw [← hfl, ← hfs] at hcmp
        have HCMP := Lib.hid hcmp
        clear hcmp hfl hfs hnm hkl hmf hjb hjn
        go_wp2_with (first
    | (go_at_call 11; (with_reducible refine (live_spec H).mono ?_); rintro e w1 ⟨rfl, H1⟩; clear H; have H := H1; clear H1)
    | (go_at_call 10; (with_reducible refine (num_spec H _ (by omega) (by omega)).mono ?_); rintro e w1 ⟨rfl, H1⟩; clear H; have H := H1; clear H1)
    | (go_at_call 12; (with_reducible refine (Open_sum_at (l := h ++ mf) H (Rd.ent H (i := 0) rfl) (by omega) hcf HKL.out (by omega) hl (by omega) HNM.out HCMP.out).mono ?_); rintro e w1 ⟨rfl, H1⟩; clear H; have H := H1; clear H1)
    | ((with_reducible refine gLd ?_); refine eLd H rfl rfl ?_; first | (refine kLdB 0 rfl rfl (by first | exact T3 | exact T5 | exact T22 | exact T23 | exact T24 | exact T33 | exact T38 | exact T9 | exact T2 | exact T4 | exact T54 | exact T69 | exact T66 | exact T72) rfl ?_; intro rb hrb; cases rb <;> (first | (exfalso; simp at hrb; done) | ((try simp only [decide_eq_true_eq, decide_eq_false_iff_not, beq_iff_eq, beq_eq_false_iff_ne, ne_eq, bne_iff_ne, bne_eq_false_iff_eq, Bool.not_eq_true', Bool.not_eq_false', gt_iff_lt, ge_iff_le, Int.not_lt, Int.not_le, Decidable.not_not] at hrb); (try subst hrb); (try (exfalso; omega))))) | (refine kLdB 1 rfl rfl (by first | exact T3 | exact T5 | exact T22 | exact T23 | exact T24 | exact T33 | exact T38 | exact T9 | exact T2 | exact T4 | exact T54 | exact T69 | exact T66 | exact T72) rfl ?_; intro rb hrb; cases rb <;> (first | (exfalso; simp at hrb; done) | ((try simp only [decide_eq_true_eq, decide_eq_false_iff_not, beq_iff_eq, beq_eq_false_iff_ne, ne_eq, bne_iff_ne, bne_eq_false_iff_eq, Bool.not_eq_true', Bool.not_eq_false', gt_iff_lt, ge_iff_le, Int.not_lt, Int.not_le, Decidable.not_not] at hrb); (try subst hrb); (try (exfalso; omega))))) | (refine kLd 0 rfl rfl (by first | exact T3 | exact T5 | exact T22 | exact T23 | exact T24 | exact T33 | exact T38 | exact T9 | exact T2 | exact T4 | exact T54 | exact T69 | exact T66 | exact T72) rfl ?_) | (refine kLd 1 rfl rfl (by first | exact T3 | exact T5 | exact T22 | exact T23 | exact T24 | exact T33 | exact T38 | exact T9 | exact T2 | exact T4 | exact T54 | exact T69 | exact T66 | exact T72) rfl ?_) | (refine kLdA 0 rfl rfl (by first | exact T3 | exact T5 | exact T22 | exact T23 | exact T24 | exact T33 | exact T38 | exact T9 | exact T2 | exact T4 | exact T54 | exact T69 | exact T66 | exact T72) (Nat.le_of_ble_eq_true rfl) (by simp only [eR, eB, List.drop_succ_cons, List.drop_zero, List.take_succ_cons, List.take_zero, List.set_cons_zero, List.set_cons_succ]; rfl) ?_) | (refine kLdA 1 rfl rfl (by first | exact T3 | exact T5 | exact T22 | exact T23 | exact T24 | exact T33 | exact T38 | exact T9 | exact T2 | exact T4 | exact T54 | exact T69 | exact T66 | exact T72) (Nat.le_of_ble_eq_true rfl) (by simp only [eR, eB, List.drop_succ_cons, List.drop_zero, List.take_succ_cons, List.take_zero, List.set_cons_zero, List.set_cons_succ]; rfl) ?_))
    | ((with_reducible refine gSt ?_); (first | (refine eSt H rfl rfl ⟨.int _ _, rfl, ?_⟩) | (refine eSt H rfl rfl ⟨.bool _, rfl, ?_⟩) | (refine eSt H rfl rfl ⟨.slice _ _ _, rfl, ?_⟩) | (refine eSt H rfl rfl ⟨.pointer _, rfl, ?_⟩) | (refine eSt H rfl rfl ⟨.string _, rfl, ?_⟩) | (refine eSt H rfl rfl ⟨.agg (List.toArray _), rfl, ?_⟩)); (first | (refine kSt 0 rfl rfl (by first | exact T3 | exact T5 | exact T22 | exact T23 | exact T24 | exact T33 | exact T38 | exact T9 | exact T2 | exact T4 | exact T54 | exact T69 | exact T66 | exact T72) rfl (Nat.le_of_ble_eq_true rfl) ?_) | (refine kSt 1 rfl rfl (by first | exact T3 | exact T5 | exact T22 | exact T23 | exact T24 | exact T33 | exact T38 | exact T9 | exact T2 | exact T4 | exact T54 | exact T69 | exact T66 | exact T72) rfl (Nat.le_of_ble_eq_true rfl) ?_) | (refine kStA 0 rfl rfl (by first | exact T3 | exact T5 | exact T22 | exact T23 | exact T24 | exact T33 | exact T38 | exact T9 | exact T2 | exact T4 | exact T54 | exact T69 | exact T66 | exact T72) rfl rfl (Nat.le_of_ble_eq_true rfl) ?_) | (refine kStA 1 rfl rfl (by first | exact T3 | exact T5 | exact T22 | exact T23 | exact T24 | exact T33 | exact T38 | exact T9 | exact T2 | exact T4 | exact T54 | exact T69 | exact T66 | exact T72) rfl rfl (Nat.le_of_ble_eq_true rfl) ?_)); clear H; intro w1 H; simp only [List.set_cons_zero, List.set_cons_succ] at H; (try simp only [lay, List.take_zero, List.nil_append, List.length_cons, List.length_nil, Nat.zero_add, Nat.reduceAdd, List.drop_succ_cons, List.drop_zero, List.drop_nil, List.append_nil, List.take_succ_cons, List.cons_append] at H))
    | ((with_reducible refine gBx ?_); refine bxA H rfl rfl rfl ?_; clear H; intro b1 w1 H)
    | ((with_reducible refine gBs ?_); (first | (refine bs1 H rfl (by first | exact S22 | exact S54 | exact S61) rfl (Nat.le_of_ble_eq_true rfl) (Nat.le_of_ble_eq_true rfl) rfl ?_) | (refine wl_buildSlice0 rfl (by first | exact S22 | exact S54 | exact S61) H ?_)); clear H; intro b1 w1 H)
    | ((with_reducible refine gEq ?_); (first | (refine wl_cmp rfl rfl rfl rfl ?_) | (refine wl_scmp rfl rfl rfl rfl ?_)); intro rb hrb; cases rb <;> (first | (exfalso; simp at hrb; done) | ((try simp only [decide_eq_true_eq, decide_eq_false_iff_not, beq_iff_eq, beq_eq_false_iff_ne, ne_eq, bne_iff_ne, bne_eq_false_iff_eq, Bool.not_eq_true', Bool.not_eq_false', gt_iff_lt, ge_iff_le, Int.not_lt, Int.not_le, Decidable.not_not] at hrb); (try subst hrb); (try (exfalso; omega)))))
    | ((with_reducible refine gRg ?_); refine wp_region_text rfl (by decide +kernel) ?_; replace H := H.drew)
    | ((with_reducible refine EndQ.intro ?_ ?_); (· kernel_rfl)))
        all_goals (go_ret; exact ⟨rfl, _, H⟩)
      | false =>
        have hm2 : mf = m0 := by
          rw [← hmf]
          exact turnK_none fun j hj hc => by have := HTT.out.2 ⟨j, hj, hc⟩; cases this
        have hcmp : le (mf.drop l.length) 0 = (crc (mf.take l.length)).toNat := by
          rw [hm2, ← HM0.out, List.drop_left, List.take_left]; exact sum4_le _
        rw [← hfl, ← hfs] at hcmp
        have HCMP := Lib.hid hcmp
        clear hcmp hfl hfs hnm hkl hmf hm2
        go_wp2_with (first
    | (go_at_call 11; (with_reducible refine (live_spec H).mono ?_); rintro e w1 ⟨rfl, H1⟩; clear H; have H := H1; clear H1)
    | (go_at_call 10; (with_reducible refine (num_spec H _ (by omega) (by omega)).mono ?_); rintro e w1 ⟨rfl, H1⟩; clear H; have H := H1; clear H1)
    | (go_at_call 12; (with_reducible refine (Open_ok_at (l := h ++ mf) H (Rd.ent H (i := 0) rfl) (by omega) hcf HKL.out (by omega) hl (by omega) HNM.out HCMP.out).mono ?_); rintro e w1 ⟨ao, co, rfl, H1⟩; clear H; have H := H1; clear H1)
    | ((with_reducible refine gLd ?_); refine eLd H rfl rfl ?_; first | (refine kLdB 0 rfl rfl (by first | exact T3 | exact T5 | exact T22 | exact T23 | exact T24 | exact T33 | exact T38 | exact T9 | exact T2 | exact T4 | exact T54 | exact T69 | exact T66 | exact T72) rfl ?_; intro rb hrb; cases rb <;> (first | (exfalso; simp at hrb; done) | ((try simp only [decide_eq_true_eq, decide_eq_false_iff_not, beq_iff_eq, beq_eq_false_iff_ne, ne_eq, bne_iff_ne, bne_eq_false_iff_eq, Bool.not_eq_true', Bool.not_eq_false', gt_iff_lt, ge_iff_le, Int.not_lt, Int.not_le, Decidable.not_not] at hrb); (try subst hrb); (try (exfalso; omega))))) | (refine kLdB 1 rfl rfl (by first | exact T3 | exact T5 | exact T22 | exact T23 | exact T24 | exact T33 | exact T38 | exact T9 | exact T2 | exact T4 | exact T54 | exact T69 | exact T66 | exact T72) rfl ?_; intro rb hrb; cases rb <;> (first | (exfalso; simp at hrb; done) | ((try simp only [decide_eq_true_eq, decide_eq_false_iff_not, beq_iff_eq, beq_eq_false_iff_ne, ne_eq, bne_iff_ne, bne_eq_false_iff_eq, Bool.not_eq_true', Bool.not_eq_false', gt_iff_lt, ge_iff_le, Int.not_lt, Int.not_le, Decidable.not_not] at hrb); (try subst hrb); (try (exfalso; omega))))) | (refine kLd 0 rfl rfl (by first | exact T3 | exact T5 | exact T22 | exact T23 | exact T24 | exact T33 | exact T38 | exact T9 | exact T2 | exact T4 | exact T54 | exact T69 | exact T66 | exact T72) rfl ?_) | (refine kLd 1 rfl rfl (by first | exact T3 | exact T5 | exact T22 | exact T23 | exact T24 | exact T33 | exact T38 | exact T9 | exact T2 | exact T4 | exact T54 | exact T69 | exact T66 | exact T72) rfl ?_) | (refine kLdA 0 rfl rfl (by first | exact T3 | exact T5 | exact T22 | exact T23 | exact T24 | exact T33 | exact T38 | exact T9 | exact T2 | exact T4 | exact T54 | exact T69 | exact T66 | exact T72) (Nat.le_of_ble_eq_true rfl) (by simp only [eR, eB, List.drop_succ_cons, List.drop_zero, List.take_succ_cons, List.take_zero, List.set_cons_zero, List.set_cons_succ]; rfl) ?_) | (refine kLdA 1 rfl rfl (by first | exact T3 | exact T5 | exact T22 | exact T23 | exact T24 | exact T33 | exact T38 | exact T9 | exact T2 | exact T4 | exact T54 | exact T69 | exact T66 | exact T72) (Nat.le_of_ble_eq_true rfl) (by simp only [eR, eB, List.drop_succ_cons, List.drop_zero, List.take_succ_cons, List.take_zero, List.set_cons_zero, List.set_cons_succ]; rfl) ?_))
    | ((with_reducible refine gSt ?_); (first | (refine eSt H rfl rfl ⟨.int _ _, rfl, ?_⟩) | (refine eSt H rfl rfl ⟨.bool _, rfl, ?_⟩) | (refine eSt H rfl rfl ⟨.slice _ _ _, rfl, ?_⟩) | (refine eSt H rfl rfl ⟨.pointer _, rfl, ?_⟩) | (refine eSt H rfl rfl ⟨.string _, rfl, ?_⟩) | (refine eSt H rfl rfl ⟨.agg (List.toArray _), rfl, ?_⟩)); (first | (refine kSt 0 rfl rfl (by first | exact T3 | exact T5 | exact T22 | exact T23 | exact T24 | exact T33 | exact T38 | exact T9 | exact T2 | exact T4 | exact T54 | exact T69 | exact T66 | exact T72) rfl (Nat.le_of_ble_eq_true rfl) ?_) | (refine kSt 1 rfl rfl (by first | exact T3 | exact T5 | exact T22 | exact T23 | exact T24 | exact T33 | exact T38 | exact T9 | exact T2 | exact T4 | exact T54 | exact T69 | exact T66 | exact T72) rfl (Nat.le_of_ble_eq_true rfl) ?_) | (refine kStA 0 rfl rfl (by first | exact T3 | exact T5 | exact T22 | exact T23 | exact T24 | exact T33 | exact T38 | exact T9 | exact T2 | exact T4 | exact T54 | exact T69 | exact T66 | exact T72) rfl rfl (Nat.le_of_ble_eq_true rfl) ?_) | (refine kStA 1 rfl rfl (by first | exact T3 | exact T5 | exact T22 | exact T23 | exact T24 | exact T33 | exact T38 | exact T9 | exact T2 | exact T4 | exact T54 | exact T69 | exact T66 | exact T72) rfl rfl (Nat.le_of_ble_eq_true rfl) ?_)); clear H; intro w1 H; simp only [List.set_cons_zero, List.set_cons_succ] at H; (try simp only [lay, List.take_zero, List.nil_append, List.length_cons, List.length_nil, Nat.zero_add, Nat.reduceAdd, List.drop_succ_cons, List.drop_zero, List.drop_nil, List.append_nil, List.take_succ_cons, List.cons_append] at H))
    | ((with_reducible refine gBx ?_); refine bxA H rfl rfl rfl ?_; clear H; intro b1 w1 H)
    | ((with_reducible refine gBs ?_); (first | (refine bs1 H rfl (by first | exact S22 | exact S54 | exact S61) rfl (Nat.le_of_ble_eq_true rfl) (Nat.le_of_ble_eq_true rfl) rfl ?_) | (refine wl_buildSlice0 rfl (by first | exact S22 | exact S54 | exact S61) H ?_)); clear H; intro b1 w1 H)
    | ((with_reducible refine gEq ?_); (first | (refine wl_cmp rfl rfl rfl rfl ?_) | (refine wl_scmp rfl rfl rfl rfl ?_)); intro rb hrb; cases rb <;> (first | (exfalso; simp at hrb; done) | ((try simp only [decide_eq_true_eq, decide_eq_false_iff_not, beq_iff_eq, beq_eq_false_iff_ne, ne_eq, bne_iff_ne, bne_eq_false_iff_eq, Bool.not_eq_true', Bool.not_eq_false', gt_iff_lt, ge_iff_le, Int.not_lt, Int.not_le, Decidable.not_not] at hrb); (try subst hrb); (try (exfalso; omega)))))
    | ((with_reducible refine gRg ?_); refine wp_region_text rfl (by decide +kernel) ?_; replace H := H.drew)
    | ((with_reducible refine EndQ.intro ?_ ?_); (· kernel_rfl)))
        all_goals (go_ret; exact ⟨rfl, _, H⟩)
theorem Turned_spec {w0 w : World} {D : Nat → Prop} {R : List Ent} {i : Int} {X : UInt32} {x : Option Addr} {c : Nat} {l : List UInt8} (H : Hp w0 D R w) (hi0 : -9223372036854775808 ≤ i) (hi1 : i < 9223372036854775808) (hX : Rd w0 D R x (bs l)) (hr : l.length ≤ 140737488351232) : Calls Try.prog 3 #[.slice x l.length c, .int .i64 i, .int .u32 (X.toNat : Int)] w fun e w' => e = .returned (.bool true) ∧ ∃ L, Hp w0 D L w' := by
  by_cases hl : 4096 < l.length
  · exact Turned_long H hX hl hr
  · by_cases hm : (X.toNat : Int) = 0
    · exact Turned_zero H hX (by omega) hm
    · by_cases hi : i < 0
      · exact Turned_neg H hX hi hi0 (a0 := (-(i + 1)).toNat) (by omega) (by omega) (by omega) hm
      · obtain ⟨a0, rfl⟩ : ∃ a0 : Nat, i = (a0 : Int) := ⟨i.toNat, by omega⟩
        exact Turned_pos H hX (by omega) (by omega) hm
end Go.Proofs.Ytajaloaknfbobaa
