/- What functions of layer 1 compute. -/
import Derived.Test.YtajaloaknfbobaaW7
import Derived.WalkKit
import Derived.WalkLawsBesides
import Derived.Lib.Hide
import Derived.Deep.LoopGhost
import Derived.WalkSpells
set_option linter.unusedVariables false
set_option linter.unusedSimpArgs false
namespace Go.Proofs.Ytajaloaknfbobaa
open Go.RowKit Go.Gx Go.Gx.Cod
set_option maxRecDepth 100000

theorem bxorX {X Y Z : UInt32} (h : X ^^^ Y = Z) : bitop .xor .u32 (X.toNat : Int) (Y.toNat : Int) = some (Z.toNat : Int) := by subst h; exact bxor32 X Y
theorem bxorP {X Z : UInt32} (h : X ^^^ 0x82f63b78 = Z) : bitop .xor .u32 (X.toNat : Int) 2197175160 = some (Z.toNat : Int) := by subst h; exact bxor32 X 0x82f63b78
theorem band1 {X Z : UInt32} (h : X &&& 1 = Z) : bitop .and .u32 (X.toNat : Int) 1 = some (Z.toNat : Int) := by subst h; exact band32 X 1
theorem bshr1 {X Z : UInt32} (h : X >>> 1 = Z) : bitop .shr .u32 (X.toNat : Int) 1 = some (Z.toNat : Int) := by subst h; exact bshr32 X 1 (by decide)
theorem conv8X {c : UInt8} {Y : UInt32} (h : c.toUInt32 = Y) : IntKind.u32.wrap (c.toNat : Int) = (Y.toNat : Int) := by subst h; exact conv8_32 c
theorem run_notX {P : Program} {w : World} {a : Act} {X Z : UInt32} {t ty : TypeId} {dst : Option Tmp} {x : Operand} {pos : String} {af : Array Edge} {g : Option (Nat × Bool)} (h : ~~~X = Z) (hx : a.eval x = .int .u32 (X.toNat : Int)) :
    (execOp a.eval ⟨dst, .unOp .xor t x, ty, pos, af, g⟩).run P w = .ok (.value (.int .u32 (Z.toNat : Int))) w := by subst h; exact run_not32 hx
theorem u32_one {X : UInt32} (h : (X.toNat : Int) = 1) : X = 1 := by
  have h2 : X.toNat = 1 := by omega
  exact UInt32.toNat_inj.1 h2
set_option maxHeartbeats 4000000 in
theorem Sum_spec {w0 w : World} {D : Nat → Prop} {R : List Ent} {x : Option Addr} {c : Nat} {l : List UInt8} (H : Hp w0 D (R) w) (hX : Rd w0 D R x (bs l)) (hl : l.length ≤ 2000000) {z : UInt32} (hz : crc l = z) :
    Calls Try.prog 32 #[.slice x l.length c] w fun e w' => e = .returned (.int .u32 (z.toNat : Int)) ∧ Hp w0 D R w' := by
  have HX := Lib.hid hX
  have HCZ := Lib.hid hz
  clear hX hz
  try simp only [eR, eB] at H
  try simp only [eR, eB]
  go_enter Try.func32, Try.ntmps32
  go_wp2_with (first
    | ((with_reducible refine gLd ?_); refine eLd H rfl rfl ?_; first | (refine kLdB 0 rfl rfl (by first | exact T3 | exact T5 | exact T22 | exact T23 | exact T24 | exact T33 | exact T38 | exact T9 | exact T2 | exact T4 | exact T54 | exact T69 | exact T66 | exact T72) rfl ?_; intro rb hrb; cases rb <;> (first | (exfalso; simp at hrb; done) | ((try simp only [decide_eq_true_eq, decide_eq_false_iff_not, beq_iff_eq, beq_eq_false_iff_ne, ne_eq, bne_iff_ne, bne_eq_false_iff_eq, Bool.not_eq_true', Bool.not_eq_false', gt_iff_lt, ge_iff_le, Int.not_lt, Int.not_le, Decidable.not_not] at hrb); (try subst hrb); (try (exfalso; omega))))) | (refine kLd 0 rfl rfl (by first | exact T3 | exact T5 | exact T22 | exact T23 | exact T24 | exact T33 | exact T38 | exact T9 | exact T2 | exact T4 | exact T54 | exact T69 | exact T66 | exact T72) rfl ?_) | (refine kLdA 0 rfl rfl (by first | exact T3 | exact T5 | exact T22 | exact T23 | exact T24 | exact T33 | exact T38 | exact T9 | exact T2 | exact T4 | exact T54 | exact T69 | exact T66 | exact T72) (Nat.le_of_ble_eq_true rfl) (by simp only [eR, eB, List.drop_succ_cons, List.drop_zero, List.take_succ_cons, List.take_zero, List.set_cons_zero, List.set_cons_succ]; rfl) ?_))
    | ((with_reducible refine gSt ?_); (first | (refine eSt H rfl rfl ⟨.int _ _, rfl, ?_⟩) | (refine eSt H rfl rfl ⟨.bool _, rfl, ?_⟩) | (refine eSt H rfl rfl ⟨.slice _ _ _, rfl, ?_⟩) | (refine eSt H rfl rfl ⟨.pointer _, rfl, ?_⟩) | (refine eSt H rfl rfl ⟨.string _, rfl, ?_⟩) | (refine eSt H rfl rfl ⟨.agg (List.toArray _), rfl, ?_⟩)); (first | (refine kSt 0 rfl rfl (by first | exact T3 | exact T5 | exact T22 | exact T23 | exact T24 | exact T33 | exact T38 | exact T9 | exact T2 | exact T4 | exact T54 | exact T69 | exact T66 | exact T72) rfl (Nat.le_of_ble_eq_true rfl) ?_) | (refine kStA 0 rfl rfl (by first | exact T3 | exact T5 | exact T22 | exact T23 | exact T24 | exact T33 | exact T38 | exact T9 | exact T2 | exact T4 | exact T54 | exact T69 | exact T66 | exact T72) rfl rfl (Nat.le_of_ble_eq_true rfl) ?_)); clear H; intro w1 H; simp only [List.set_cons_zero, List.set_cons_succ] at H; (try simp only [lay, List.take_zero, List.nil_append, List.length_cons, List.length_nil, Nat.zero_add, Nat.reduceAdd, List.drop_succ_cons, List.drop_zero, List.drop_nil, List.append_nil, List.take_succ_cons, List.cons_append] at H))
    | ((with_reducible refine gBx ?_); refine bxA H rfl rfl rfl ?_; clear H; intro b1 w1 H)
    | ((with_reducible refine gBs ?_); (first | (refine bs1 H rfl (by first | exact S22 | exact S54 | exact S61) rfl (Nat.le_of_ble_eq_true rfl) (Nat.le_of_ble_eq_true rfl) rfl ?_) | (refine wl_buildSlice0 rfl (by first | exact S22 | exact S54 | exact S61) H ?_)); clear H; intro b1 w1 H)
    | ((with_reducible refine gEq ?_); (first | (refine wl_cmp rfl rfl rfl rfl ?_) | (refine wl_scmp rfl rfl rfl rfl ?_)); intro rb hrb; cases rb <;> (first | (exfalso; simp at hrb; done) | ((try simp only [decide_eq_true_eq, decide_eq_false_iff_not, beq_iff_eq, beq_eq_false_iff_ne, ne_eq, bne_iff_ne, bne_eq_false_iff_eq, Bool.not_eq_true', Bool.not_eq_false', gt_iff_lt, ge_iff_le, Int.not_lt, Int.not_le, Decidable.not_not] at hrb); (try subst hrb); (try (exfalso; omega)))))
    | ((with_reducible refine gRg ?_); refine wp_region_text rfl (by decide +kernel) ?_; replace H := H.drew)
    | ((with_reducible refine EndQ.intro ?_ ?_); (· kernel_rfl)))
  go_loopg [3, 9] l.length (fun n v3 v9 wr => ∃ (k : Nat) (X : UInt32), k + n = l.length ∧ v3 = .int .u32 (X.toNat : Int) ∧ v9 = .int .i64 (k : Int) ∧ X = crcS (l.take k) ∧ Hp w0 D R wr)
  case atStart => exact ⟨0, 0xFFFFFFFF, by omega, rfl, rfl, rfl, H⟩
  case round =>
    clear H
    obtain ⟨k, X, hkn, rfl, rfl, hX, H⟩ := hrel
    have HG := Lib.hid hkn
    by_cases hk : k < l.length
    · clear hkn
      obtain ⟨b, o', rfl, hR⟩ := HX.out.some_of (by rw [bs_len]; omega)
      obtain ⟨ch, hc⟩ : ∃ ch, l[k]? = some ch := ⟨_, List.getElem?_eq_getElem hk⟩
      have hnext : crcS (l.take (k + 1)) = byteC X ch := by
        rw [List.take_add_one, hc, hX]
        exact crcS_snoc _ _
      have HC := Lib.hid (bs_get hc)
      obtain ⟨Y, hy⟩ : ∃ Y, ch.toUInt32 = Y := ⟨_, rfl⟩
      obtain ⟨X0, hx0⟩ : ∃ X0, X ^^^ Y = X0 := ⟨_, rfl⟩
      rw [byteC_eq, hy, hx0] at hnext
      have HY := Lib.hid hy
      have HX0 := Lib.hid hx0
      have HN := Lib.hid hnext
      clear hnext hy hx0 hX hc
      obtain ⟨g0, hg0'⟩ : ∃ g, g = gk := ⟨_, rfl⟩
      subst hg0'
      have hg0 : 0 < g0 := by have := HG.out; omega
      go_wp2_with (first
    | ((with_reducible refine gLd ?_); refine wl_loadR (k := k) (hR [] _ H) rfl rfl (by first | rfl | omega) T5 HC.out ?_)
    | ((with_reducible refine gCv ?_); refine wl_cvI rfl Try.underlying5 Try.underlying23 (by first | with_reducible exact conv8X HY.out) rfl ?_)
    | ((with_reducible refine gEq ?_); refine wl_bit rfl rfl (by first | exact .inl rfl | exact .inr (.inl rfl) | exact .inr (.inr rfl)) (by first | with_reducible exact bxorX HX0.out) rfl ?_)
    | ((with_reducible refine gLd ?_); refine eLd H rfl rfl ?_; first | (refine kLdB 0 rfl rfl (by first | exact T3 | exact T5 | exact T22 | exact T23 | exact T24 | exact T33 | exact T38 | exact T9 | exact T2 | exact T4 | exact T54 | exact T69 | exact T66 | exact T72) rfl ?_; intro rb hrb; cases rb <;> (first | (exfalso; simp at hrb; done) | ((try simp only [decide_eq_true_eq, decide_eq_false_iff_not, beq_iff_eq, beq_eq_false_iff_ne, ne_eq, bne_iff_ne, bne_eq_false_iff_eq, Bool.not_eq_true', Bool.not_eq_false', gt_iff_lt, ge_iff_le, Int.not_lt, Int.not_le, Decidable.not_not] at hrb); (try subst hrb); (try (exfalso; omega))))) | (refine kLd 0 rfl rfl (by first | exact T3 | exact T5 | exact T22 | exact T23 | exact T24 | exact T33 | exact T38 | exact T9 | exact T2 | exact T4 | exact T54 | exact T69 | exact T66 | exact T72) rfl ?_) | (refine kLdA 0 rfl rfl (by first | exact T3 | exact T5 | exact T22 | exact T23 | exact T24 | exact T33 | exact T38 | exact T9 | exact T2 | exact T4 | exact T54 | exact T69 | exact T66 | exact T72) (Nat.le_of_ble_eq_true rfl) (by simp only [eR, eB, List.drop_succ_cons, List.drop_zero, List.take_succ_cons, List.take_zero, List.set_cons_zero, List.set_cons_succ]; rfl) ?_))
    | ((with_reducible refine gSt ?_); (first | (refine eSt H rfl rfl ⟨.int _ _, rfl, ?_⟩) | (refine eSt H rfl rfl ⟨.bool _, rfl, ?_⟩) | (refine eSt H rfl rfl ⟨.slice _ _ _, rfl, ?_⟩) | (refine eSt H rfl rfl ⟨.pointer _, rfl, ?_⟩) | (refine eSt H rfl rfl ⟨.string _, rfl, ?_⟩) | (refine eSt H rfl rfl ⟨.agg (List.toArray _), rfl, ?_⟩)); (first | (refine kSt 0 rfl rfl (by first | exact T3 | exact T5 | exact T22 | exact T23 | exact T24 | exact T33 | exact T38 | exact T9 | exact T2 | exact T4 | exact T54 | exact T69 | exact T66 | exact T72) rfl (Nat.le_of_ble_eq_true rfl) ?_) | (refine kStA 0 rfl rfl (by first | exact T3 | exact T5 | exact T22 | exact T23 | exact T24 | exact T33 | exact T38 | exact T9 | exact T2 | exact T4 | exact T54 | exact T69 | exact T66 | exact T72) rfl rfl (Nat.le_of_ble_eq_true rfl) ?_)); clear H; intro w1 H; simp only [List.set_cons_zero, List.set_cons_succ] at H; (try simp only [lay, List.take_zero, List.nil_append, List.length_cons, List.length_nil, Nat.zero_add, Nat.reduceAdd, List.drop_succ_cons, List.drop_zero, List.drop_nil, List.append_nil, List.take_succ_cons, List.cons_append] at H))
    | ((with_reducible refine gBx ?_); refine bxA H rfl rfl rfl ?_; clear H; intro b1 w1 H)
    | ((with_reducible refine gBs ?_); (first | (refine bs1 H rfl (by first | exact S22 | exact S54 | exact S61) rfl (Nat.le_of_ble_eq_true rfl) (Nat.le_of_ble_eq_true rfl) rfl ?_) | (refine wl_buildSlice0 rfl (by first | exact S22 | exact S54 | exact S61) H ?_)); clear H; intro b1 w1 H)
    | ((with_reducible refine gEq ?_); (first | (refine wl_cmp rfl rfl rfl rfl ?_) | (refine wl_scmp rfl rfl rfl rfl ?_)); intro rb hrb; cases rb <;> (first | (exfalso; simp at hrb; done) | ((try simp only [decide_eq_true_eq, decide_eq_false_iff_not, beq_iff_eq, beq_eq_false_iff_ne, ne_eq, bne_iff_ne, bne_eq_false_iff_eq, Bool.not_eq_true', Bool.not_eq_false', gt_iff_lt, ge_iff_le, Int.not_lt, Int.not_le, Decidable.not_not] at hrb); (try subst hrb); (try (exfalso; omega)))))
    | ((with_reducible refine gRg ?_); refine wp_region_text rfl (by decide +kernel) ?_; replace H := H.drew)
    | ((with_reducible refine EndQ.intro ?_ ?_); (· kernel_rfl)))
      go_loopg [3, 17] 8 (fun n v3 v17 wr => ∃ (j : Nat) (Y : UInt32), j + n = 8 ∧ v3 = .int .u32 (Y.toNat : Int) ∧ v17 = .int .i64 (j : Int) ∧ Y = iter stepC j X0 ∧ Hp w0 D R wr)
      case atStart => exact ⟨0, X0, by omega, rfl, rfl, rfl, H⟩
      case round =>
        clear H
        obtain ⟨j, Z, hjn, rfl, rfl, hZ, H⟩ := hrel
        have HJ := Lib.hid hjn
        by_cases hj : j < 8
        · clear hjn
          have hgp : 0 < gk := by have := HJ.out; omega
          obtain ⟨z1, hz1⟩ : ∃ z, Z &&& 1 = z := ⟨_, rfl⟩
          obtain ⟨z2, hz2⟩ : ∃ z, Z >>> 1 = z := ⟨_, rfl⟩
          obtain ⟨z3, hz3⟩ : ∃ z, z2 ^^^ 0x82f63b78 = z := ⟨_, rfl⟩
          have hs : iter stepC (j + 1) X0 = if z1 = 1 then z3 else z2 := by
            show stepC (iter stepC j X0) = _
            rw [← hZ, stepC, hz1, hz2, hz3]
          have HS := Lib.hid hs
          have HZ1 := Lib.hid hz1
          have HZ2 := Lib.hid hz2
          have HZ3 := Lib.hid hz3
          clear hs hz1 hz2 hz3 hZ
          by_cases h1 : z1 = 1
          · have hv : (z1.toNat : Int) = 1 := by rw [h1]; rfl
            have HE := Lib.hid h1
            clear h1
            go_wp2_with (first
    | ((with_reducible refine gEq ?_); refine wl_bit rfl rfl (by first | exact .inl rfl | exact .inr (.inl rfl) | exact .inr (.inr rfl)) (by first | with_reducible exact band1 HZ1.out | with_reducible exact bshr1 HZ2.out | with_reducible exact bxorP HZ3.out) rfl ?_)
    | ((with_reducible refine gLd ?_); refine eLd H rfl rfl ?_; first | (refine kLdB 0 rfl rfl (by first | exact T3 | exact T5 | exact T22 | exact T23 | exact T24 | exact T33 | exact T38 | exact T9 | exact T2 | exact T4 | exact T54 | exact T69 | exact T66 | exact T72) rfl ?_; intro rb hrb; cases rb <;> (first | (exfalso; simp at hrb; done) | ((try simp only [decide_eq_true_eq, decide_eq_false_iff_not, beq_iff_eq, beq_eq_false_iff_ne, ne_eq, bne_iff_ne, bne_eq_false_iff_eq, Bool.not_eq_true', Bool.not_eq_false', gt_iff_lt, ge_iff_le, Int.not_lt, Int.not_le, Decidable.not_not] at hrb); (try subst hrb); (try (exfalso; omega))))) | (refine kLd 0 rfl rfl (by first | exact T3 | exact T5 | exact T22 | exact T23 | exact T24 | exact T33 | exact T38 | exact T9 | exact T2 | exact T4 | exact T54 | exact T69 | exact T66 | exact T72) rfl ?_) | (refine kLdA 0 rfl rfl (by first | exact T3 | exact T5 | exact T22 | exact T23 | exact T24 | exact T33 | exact T38 | exact T9 | exact T2 | exact T4 | exact T54 | exact T69 | exact T66 | exact T72) (Nat.le_of_ble_eq_true rfl) (by simp only [eR, eB, List.drop_succ_cons, List.drop_zero, List.take_succ_cons, List.take_zero, List.set_cons_zero, List.set_cons_succ]; rfl) ?_))
    | ((with_reducible refine gSt ?_); (first | (refine eSt H rfl rfl ⟨.int _ _, rfl, ?_⟩) | (refine eSt H rfl rfl ⟨.bool _, rfl, ?_⟩) | (refine eSt H rfl rfl ⟨.slice _ _ _, rfl, ?_⟩) | (refine eSt H rfl rfl ⟨.pointer _, rfl, ?_⟩) | (refine eSt H rfl rfl ⟨.string _, rfl, ?_⟩) | (refine eSt H rfl rfl ⟨.agg (List.toArray _), rfl, ?_⟩)); (first | (refine kSt 0 rfl rfl (by first | exact T3 | exact T5 | exact T22 | exact T23 | exact T24 | exact T33 | exact T38 | exact T9 | exact T2 | exact T4 | exact T54 | exact T69 | exact T66 | exact T72) rfl (Nat.le_of_ble_eq_true rfl) ?_) | (refine kStA 0 rfl rfl (by first | exact T3 | exact T5 | exact T22 | exact T23 | exact T24 | exact T33 | exact T38 | exact T9 | exact T2 | exact T4 | exact T54 | exact T69 | exact T66 | exact T72) rfl rfl (Nat.le_of_ble_eq_true rfl) ?_)); clear H; intro w1 H; simp only [List.set_cons_zero, List.set_cons_succ] at H; (try simp only [lay, List.take_zero, List.nil_append, List.length_cons, List.length_nil, Nat.zero_add, Nat.reduceAdd, List.drop_succ_cons, List.drop_zero, List.drop_nil, List.append_nil, List.take_succ_cons, List.cons_append] at H))
    | ((with_reducible refine gBx ?_); refine bxA H rfl rfl rfl ?_; clear H; intro b1 w1 H)
    | ((with_reducible refine gBs ?_); (first | (refine bs1 H rfl (by first | exact S22 | exact S54 | exact S61) rfl (Nat.le_of_ble_eq_true rfl) (Nat.le_of_ble_eq_true rfl) rfl ?_) | (refine wl_buildSlice0 rfl (by first | exact S22 | exact S54 | exact S61) H ?_)); clear H; intro b1 w1 H)
    | ((with_reducible refine gEq ?_); (first | (refine wl_cmp rfl rfl rfl rfl ?_) | (refine wl_scmp rfl rfl rfl rfl ?_)); intro rb hrb; cases rb <;> (first | (exfalso; simp at hrb; done) | ((try simp only [decide_eq_true_eq, decide_eq_false_iff_not, beq_iff_eq, beq_eq_false_iff_ne, ne_eq, bne_iff_ne, bne_eq_false_iff_eq, Bool.not_eq_true', Bool.not_eq_false', gt_iff_lt, ge_iff_le, Int.not_lt, Int.not_le, Decidable.not_not] at hrb); (try subst hrb); (try (exfalso; omega)))))
    | ((with_reducible refine gRg ?_); refine wp_region_text rfl (by decide +kernel) ?_; replace H := H.drew)
    | ((with_reducible refine EndQ.intro ?_ ?_); (· kernel_rfl)))
            go_roundg (gk - 1)
            case measure => omega
            case rel => exact ⟨j + 1, z3, by have := HJ.out; omega, rfl, by go_num, by rw [HS.out, if_pos HE.out], H⟩
          · have hv : ¬ (z1.toNat : Int) = 1 := fun h => h1 (u32_one h)
            have HE := Lib.hid h1
            clear h1
            go_wp2_with (first
    | ((with_reducible refine gEq ?_); refine wl_bit rfl rfl (by first | exact .inl rfl | exact .inr (.inl rfl) | exact .inr (.inr rfl)) (by first | with_reducible exact band1 HZ1.out | with_reducible exact bshr1 HZ2.out | with_reducible exact bxorP HZ3.out) rfl ?_)
    | ((with_reducible refine gLd ?_); refine eLd H rfl rfl ?_; first | (refine kLdB 0 rfl rfl (by first | exact T3 | exact T5 | exact T22 | exact T23 | exact T24 | exact T33 | exact T38 | exact T9 | exact T2 | exact T4 | exact T54 | exact T69 | exact T66 | exact T72) rfl ?_; intro rb hrb; cases rb <;> (first | (exfalso; simp at hrb; done) | ((try simp only [decide_eq_true_eq, decide_eq_false_iff_not, beq_iff_eq, beq_eq_false_iff_ne, ne_eq, bne_iff_ne, bne_eq_false_iff_eq, Bool.not_eq_true', Bool.not_eq_false', gt_iff_lt, ge_iff_le, Int.not_lt, Int.not_le, Decidable.not_not] at hrb); (try subst hrb); (try (exfalso; omega))))) | (refine kLd 0 rfl rfl (by first | exact T3 | exact T5 | exact T22 | exact T23 | exact T24 | exact T33 | exact T38 | exact T9 | exact T2 | exact T4 | exact T54 | exact T69 | exact T66 | exact T72) rfl ?_) | (refine kLdA 0 rfl rfl (by first | exact T3 | exact T5 | exact T22 | exact T23 | exact T24 | exact T33 | exact T38 | exact T9 | exact T2 | exact T4 | exact T54 | exact T69 | exact T66 | exact T72) (Nat.le_of_ble_eq_true rfl) (by simp only [eR, eB, List.drop_succ_cons, List.drop_zero, List.take_succ_cons, List.take_zero, List.set_cons_zero, List.set_cons_succ]; rfl) ?_))
    | ((with_reducible refine gSt ?_); (first | (refine eSt H rfl rfl ⟨.int _ _, rfl, ?_⟩) | (refine eSt H rfl rfl ⟨.bool _, rfl, ?_⟩) | (refine eSt H rfl rfl ⟨.slice _ _ _, rfl, ?_⟩) | (refine eSt H rfl rfl ⟨.pointer _, rfl, ?_⟩) | (refine eSt H rfl rfl ⟨.string _, rfl, ?_⟩) | (refine eSt H rfl rfl ⟨.agg (List.toArray _), rfl, ?_⟩)); (first | (refine kSt 0 rfl rfl (by first | exact T3 | exact T5 | exact T22 | exact T23 | exact T24 | exact T33 | exact T38 | exact T9 | exact T2 | exact T4 | exact T54 | exact T69 | exact T66 | exact T72) rfl (Nat.le_of_ble_eq_true rfl) ?_) | (refine kStA 0 rfl rfl (by first | exact T3 | exact T5 | exact T22 | exact T23 | exact T24 | exact T33 | exact T38 | exact T9 | exact T2 | exact T4 | exact T54 | exact T69 | exact T66 | exact T72) rfl rfl (Nat.le_of_ble_eq_true rfl) ?_)); clear H; intro w1 H; simp only [List.set_cons_zero, List.set_cons_succ] at H; (try simp only [lay, List.take_zero, List.nil_append, List.length_cons, List.length_nil, Nat.zero_add, Nat.reduceAdd, List.drop_succ_cons, List.drop_zero, List.drop_nil, List.append_nil, List.take_succ_cons, List.cons_append] at H))
    | ((with_reducible refine gBx ?_); refine bxA H rfl rfl rfl ?_; clear H; intro b1 w1 H)
    | ((with_reducible refine gBs ?_); (first | (refine bs1 H rfl (by first | exact S22 | exact S54 | exact S61) rfl (Nat.le_of_ble_eq_true rfl) (Nat.le_of_ble_eq_true rfl) rfl ?_) | (refine wl_buildSlice0 rfl (by first | exact S22 | exact S54 | exact S61) H ?_)); clear H; intro b1 w1 H)
    | ((with_reducible refine gEq ?_); (first | (refine wl_cmp rfl rfl rfl rfl ?_) | (refine wl_scmp rfl rfl rfl rfl ?_)); intro rb hrb; cases rb <;> (first | (exfalso; simp at hrb; done) | ((try simp only [decide_eq_true_eq, decide_eq_false_iff_not, beq_iff_eq, beq_eq_false_iff_ne, ne_eq, bne_iff_ne, bne_eq_false_iff_eq, Bool.not_eq_true', Bool.not_eq_false', gt_iff_lt, ge_iff_le, Int.not_lt, Int.not_le, Decidable.not_not] at hrb); (try subst hrb); (try (exfalso; omega)))))
    | ((with_reducible refine gRg ?_); refine wp_region_text rfl (by decide +kernel) ?_; replace H := H.drew)
    | ((with_reducible refine EndQ.intro ?_ ?_); (· kernel_rfl)))
            go_roundg (gk - 1)
            case measure => omega
            case rel => exact ⟨j + 1, z2, by have := HJ.out; omega, rfl, by go_num, by rw [HS.out, if_neg HE.out], H⟩
        · have hj8 : j = 8 := by omega
          subst hj8
          have HZ := Lib.hid hZ
          clear hjn hZ
          go_wp2_with (first
    | ((with_reducible refine gLd ?_); refine eLd H rfl rfl ?_; first | (refine kLdB 0 rfl rfl (by first | exact T3 | exact T5 | exact T22 | exact T23 | exact T24 | exact T33 | exact T38 | exact T9 | exact T2 | exact T4 | exact T54 | exact T69 | exact T66 | exact T72) rfl ?_; intro rb hrb; cases rb <;> (first | (exfalso; simp at hrb; done) | ((try simp only [decide_eq_true_eq, decide_eq_false_iff_not, beq_iff_eq, beq_eq_false_iff_ne, ne_eq, bne_iff_ne, bne_eq_false_iff_eq, Bool.not_eq_true', Bool.not_eq_false', gt_iff_lt, ge_iff_le, Int.not_lt, Int.not_le, Decidable.not_not] at hrb); (try subst hrb); (try (exfalso; omega))))) | (refine kLd 0 rfl rfl (by first | exact T3 | exact T5 | exact T22 | exact T23 | exact T24 | exact T33 | exact T38 | exact T9 | exact T2 | exact T4 | exact T54 | exact T69 | exact T66 | exact T72) rfl ?_) | (refine kLdA 0 rfl rfl (by first | exact T3 | exact T5 | exact T22 | exact T23 | exact T24 | exact T33 | exact T38 | exact T9 | exact T2 | exact T4 | exact T54 | exact T69 | exact T66 | exact T72) (Nat.le_of_ble_eq_true rfl) (by simp only [eR, eB, List.drop_succ_cons, List.drop_zero, List.take_succ_cons, List.take_zero, List.set_cons_zero, List.set_cons_succ]; rfl) ?_))
    | ((with_reducible refine gSt ?_); (first | (refine eSt H rfl rfl ⟨.int _ _, rfl, ?_⟩) | (refine eSt H rfl rfl ⟨.bool _, rfl, ?_⟩) | (refine eSt H rfl rfl ⟨.slice _ _ _, rfl, ?_⟩) | (refine eSt H rfl rfl ⟨.pointer _, rfl, ?_⟩) | (refine eSt H rfl rfl ⟨.string _, rfl, ?_⟩) | (refine eSt H rfl rfl ⟨.agg (List.toArray _), rfl, ?_⟩)); (first | (refine kSt 0 rfl rfl (by first | exact T3 | exact T5 | exact T22 | exact T23 | exact T24 | exact T33 | exact T38 | exact T9 | exact T2 | exact T4 | exact T54 | exact T69 | exact T66 | exact T72) rfl (Nat.le_of_ble_eq_true rfl) ?_) | (refine kStA 0 rfl rfl (by first | exact T3 | exact T5 | exact T22 | exact T23 | exact T24 | exact T33 | exact T38 | exact T9 | exact T2 | exact T4 | exact T54 | exact T69 | exact T66 | exact T72) rfl rfl (Nat.le_of_ble_eq_true rfl) ?_)); clear H; intro w1 H; simp only [List.set_cons_zero, List.set_cons_succ] at H; (try simp only [lay, List.take_zero, List.nil_append, List.length_cons, List.length_nil, Nat.zero_add, Nat.reduceAdd, List.drop_succ_cons, List.drop_zero, List.drop_nil, List.append_nil, List.take_succ_cons, List.cons_append] at H))
    | ((with_reducible refine gBx ?_); refine bxA H rfl rfl rfl ?_; clear H; intro b1 w1 H)
    | ((with_reducible refine gBs ?_); (first | (refine bs1 H rfl (by first | exact S22 | exact S54 | exact S61) rfl (Nat.le_of_ble_eq_true rfl) (Nat.le_of_ble_eq_true rfl) rfl ?_) | (refine wl_buildSlice0 rfl (by first | exact S22 | exact S54 | exact S61) H ?_)); clear H; intro b1 w1 H)
    | ((with_reducible refine gEq ?_); (first | (refine wl_cmp rfl rfl rfl rfl ?_) | (refine wl_scmp rfl rfl rfl rfl ?_)); intro rb hrb; cases rb <;> (first | (exfalso; simp at hrb; done) | ((try simp only [decide_eq_true_eq, decide_eq_false_iff_not, beq_iff_eq, beq_eq_false_iff_ne, ne_eq, bne_iff_ne, bne_eq_false_iff_eq, Bool.not_eq_true', Bool.not_eq_false', gt_iff_lt, ge_iff_le, Int.not_lt, Int.not_le, Decidable.not_not] at hrb); (try subst hrb); (try (exfalso; omega)))))
    | ((with_reducible refine gRg ?_); refine wp_region_text rfl (by decide +kernel) ?_; replace H := H.drew)
    | ((with_reducible refine EndQ.intro ?_ ?_); (· kernel_rfl)))
          go_roundg (g0 - 1)
          case measure => omega
          case rel => exact ⟨k + 1, Z, by have := HG.out; omega, rfl, by go_num, by rw [HN.out, HZ.out], H⟩
    · have hkl : k = l.length := by omega
      subst hkl
      rw [List.take_length] at hX
      have hz : ~~~X = z := by rw [← HCZ.out, crc, hX]
      have HZ := Lib.hid hz
      clear hkn hX hz
      go_wp2_with (first
    | ((with_reducible refine gUn ?_); refine wl_run rfl (run_notX HZ.out rfl) ?_)
    | ((with_reducible refine gLd ?_); refine eLd H rfl rfl ?_; first | (refine kLdB 0 rfl rfl (by first | exact T3 | exact T5 | exact T22 | exact T23 | exact T24 | exact T33 | exact T38 | exact T9 | exact T2 | exact T4 | exact T54 | exact T69 | exact T66 | exact T72) rfl ?_; intro rb hrb; cases rb <;> (first | (exfalso; simp at hrb; done) | ((try simp only [decide_eq_true_eq, decide_eq_false_iff_not, beq_iff_eq, beq_eq_false_iff_ne, ne_eq, bne_iff_ne, bne_eq_false_iff_eq, Bool.not_eq_true', Bool.not_eq_false', gt_iff_lt, ge_iff_le, Int.not_lt, Int.not_le, Decidable.not_not] at hrb); (try subst hrb); (try (exfalso; omega))))) | (refine kLd 0 rfl rfl (by first | exact T3 | exact T5 | exact T22 | exact T23 | exact T24 | exact T33 | exact T38 | exact T9 | exact T2 | exact T4 | exact T54 | exact T69 | exact T66 | exact T72) rfl ?_) | (refine kLdA 0 rfl rfl (by first | exact T3 | exact T5 | exact T22 | exact T23 | exact T24 | exact T33 | exact T38 | exact T9 | exact T2 | exact T4 | exact T54 | exact T69 | exact T66 | exact T72) (Nat.le_of_ble_eq_true rfl) (by simp only [eR, eB, List.drop_succ_cons, List.drop_zero, List.take_succ_cons, List.take_zero, List.set_cons_zero, List.set_cons_succ]; rfl) ?_))
    | ((with_reducible refine gSt ?_); (first | (refine eSt H rfl rfl ⟨.int _ _, rfl, ?_⟩) | (refine eSt H rfl rfl ⟨.bool _, rfl, ?_⟩) | (refine eSt H rfl rfl ⟨.slice _ _ _, rfl, ?_⟩) | (refine eSt H rfl rfl ⟨.pointer _, rfl, ?_⟩) | (refine eSt H rfl rfl ⟨.string _, rfl, ?_⟩) | (refine eSt H rfl rfl ⟨.agg (List.toArray _), rfl, ?_⟩)); (first | (refine kSt 0 rfl rfl (by first | exact T3 | exact T5 | exact T22 | exact T23 | exact T24 | exact T33 | exact T38 | exact T9 | exact T2 | exact T4 | exact T54 | exact T69 | exact T66 | exact T72) rfl (Nat.le_of_ble_eq_true rfl) ?_) | (refine kStA 0 rfl rfl (by first | exact T3 | exact T5 | exact T22 | exact T23 | exact T24 | exact T33 | exact T38 | exact T9 | exact T2 | exact T4 | exact T54 | exact T69 | exact T66 | exact T72) rfl rfl (Nat.le_of_ble_eq_true rfl) ?_)); clear H; intro w1 H; simp only [List.set_cons_zero, List.set_cons_succ] at H; (try simp only [lay, List.take_zero, List.nil_append, List.length_cons, List.length_nil, Nat.zero_add, Nat.reduceAdd, List.drop_succ_cons, List.drop_zero, List.drop_nil, List.append_nil, List.take_succ_cons, List.cons_append] at H))
    | ((with_reducible refine gBx ?_); refine bxA H rfl rfl rfl ?_; clear H; intro b1 w1 H)
    | ((with_reducible refine gBs ?_); (first | (refine bs1 H rfl (by first | exact S22 | exact S54 | exact S61) rfl (Nat.le_of_ble_eq_true rfl) (Nat.le_of_ble_eq_true rfl) rfl ?_) | (refine wl_buildSlice0 rfl (by first | exact S22 | exact S54 | exact S61) H ?_)); clear H; intro b1 w1 H)
    | ((with_reducible refine gEq ?_); (first | (refine wl_cmp rfl rfl rfl rfl ?_) | (refine wl_scmp rfl rfl rfl rfl ?_)); intro rb hrb; cases rb <;> (first | (exfalso; simp at hrb; done) | ((try simp only [decide_eq_true_eq, decide_eq_false_iff_not, beq_iff_eq, beq_eq_false_iff_ne, ne_eq, bne_iff_ne, bne_eq_false_iff_eq, Bool.not_eq_true', Bool.not_eq_false', gt_iff_lt, ge_iff_le, Int.not_lt, Int.not_le, Decidable.not_not] at hrb); (try subst hrb); (try (exfalso; omega)))))
    | ((with_reducible refine gRg ?_); refine wp_region_text rfl (by decide +kernel) ?_; replace H := H.drew)
    | ((with_reducible refine EndQ.intro ?_ ?_); (· kernel_rfl)))
      go_ret
      exact ⟨rfl, H⟩
set_option maxHeartbeats 4000000 in
theorem rSum_spec {w0 w : World} {D : Nat → Prop} {R : List Ent} {x : Option Addr} {c : Nat} {l : List UInt8} (H : Hp w0 D (R) w) (hX : Rd w0 D R x (bs l)) (hl : l.length ≤ 2000000) {z : UInt32} (hz : crc l = z) :
    Calls Try.prog 33 #[.slice x l.length c] w fun e w' => e = .returned (.int .u32 (z.toNat : Int)) ∧ Hp w0 D R w' := by
  have HX := Lib.hid hX
  have HCZ := Lib.hid hz
  clear hX hz
  try simp only [eR, eB] at H
  try simp only [eR, eB]
  go_enter Try.func33, Try.ntmps33
  go_wp2_with (first
    | ((with_reducible refine gLd ?_); refine eLd H rfl rfl ?_; first | (refine kLdB 0 rfl rfl (by first | exact T3 | exact T5 | exact T22 | exact T23 | exact T24 | exact T33 | exact T38 | exact T9 | exact T2 | exact T4 | exact T54 | exact T69 | exact T66 | exact T72) rfl ?_; intro rb hrb; cases rb <;> (first | (exfalso; simp at hrb; done) | ((try simp only [decide_eq_true_eq, decide_eq_false_iff_not, beq_iff_eq, beq_eq_false_iff_ne, ne_eq, bne_iff_ne, bne_eq_false_iff_eq, Bool.not_eq_true', Bool.not_eq_false', gt_iff_lt, ge_iff_le, Int.not_lt, Int.not_le, Decidable.not_not] at hrb); (try subst hrb); (try (exfalso; omega))))) | (refine kLd 0 rfl rfl (by first | exact T3 | exact T5 | exact T22 | exact T23 | exact T24 | exact T33 | exact T38 | exact T9 | exact T2 | exact T4 | exact T54 | exact T69 | exact T66 | exact T72) rfl ?_) | (refine kLdA 0 rfl rfl (by first | exact T3 | exact T5 | exact T22 | exact T23 | exact T24 | exact T33 | exact T38 | exact T9 | exact T2 | exact T4 | exact T54 | exact T69 | exact T66 | exact T72) (Nat.le_of_ble_eq_true rfl) (by simp only [eR, eB, List.drop_succ_cons, List.drop_zero, List.take_succ_cons, List.take_zero, List.set_cons_zero, List.set_cons_succ]; rfl) ?_))
    | ((with_reducible refine gSt ?_); (first | (refine eSt H rfl rfl ⟨.int _ _, rfl, ?_⟩) | (refine eSt H rfl rfl ⟨.bool _, rfl, ?_⟩) | (refine eSt H rfl rfl ⟨.slice _ _ _, rfl, ?_⟩) | (refine eSt H rfl rfl ⟨.pointer _, rfl, ?_⟩) | (refine eSt H rfl rfl ⟨.string _, rfl, ?_⟩) | (refine eSt H rfl rfl ⟨.agg (List.toArray _), rfl, ?_⟩)); (first | (refine kSt 0 rfl rfl (by first | exact T3 | exact T5 | exact T22 | exact T23 | exact T24 | exact T33 | exact T38 | exact T9 | exact T2 | exact T4 | exact T54 | exact T69 | exact T66 | exact T72) rfl (Nat.le_of_ble_eq_true rfl) ?_) | (refine kStA 0 rfl rfl (by first | exact T3 | exact T5 | exact T22 | exact T23 | exact T24 | exact T33 | exact T38 | exact T9 | exact T2 | exact T4 | exact T54 | exact T69 | exact T66 | exact T72) rfl rfl (Nat.le_of_ble_eq_true rfl) ?_)); clear H; intro w1 H; simp only [List.set_cons_zero, List.set_cons_succ] at H; (try simp only [lay, List.take_zero, List.nil_append, List.length_cons, List.length_nil, Nat.zero_add, Nat.reduceAdd, List.drop_succ_cons, List.drop_zero, List.drop_nil, List.append_nil, List.take_succ_cons, List.cons_append] at H))
    | ((with_reducible refine gBx ?_); refine bxA H rfl rfl rfl ?_; clear H; intro b1 w1 H)
    | ((with_reducible refine gBs ?_); (first | (refine bs1 H rfl (by first | exact S22 | exact S54 | exact S61) rfl (Nat.le_of_ble_eq_true rfl) (Nat.le_of_ble_eq_true rfl) rfl ?_) | (refine wl_buildSlice0 rfl (by first | exact S22 | exact S54 | exact S61) H ?_)); clear H; intro b1 w1 H)
    | ((with_reducible refine gEq ?_); (first | (refine wl_cmp rfl rfl rfl rfl ?_) | (refine wl_scmp rfl rfl rfl rfl ?_)); intro rb hrb; cases rb <;> (first | (exfalso; simp at hrb; done) | ((try simp only [decide_eq_true_eq, decide_eq_false_iff_not, beq_iff_eq, beq_eq_false_iff_ne, ne_eq, bne_iff_ne, bne_eq_false_iff_eq, Bool.not_eq_true', Bool.not_eq_false', gt_iff_lt, ge_iff_le, Int.not_lt, Int.not_le, Decidable.not_not] at hrb); (try subst hrb); (try (exfalso; omega)))))
    | ((with_reducible refine gRg ?_); refine wp_region_text rfl (by decide +kernel) ?_; replace H := H.drew)
    | ((with_reducible refine EndQ.intro ?_ ?_); (· kernel_rfl)))
  go_loopg [3, 4] l.length (fun n v3 v9 wr => ∃ (k : Nat) (X : UInt32), k + n = l.length ∧ v3 = .int .u32 (X.toNat : Int) ∧ v9 = .int .i64 (k : Int) ∧ X = crcS (l.take k) ∧ Hp w0 D R wr)
  case atStart => exact ⟨0, 0xFFFFFFFF, by omega, rfl, rfl, rfl, H⟩
  case round =>
    clear H
    obtain ⟨k, X, hkn, rfl, rfl, hX, H⟩ := hrel
    have HG := Lib.hid hkn
    by_cases hk : k < l.length
    · clear hkn
      obtain ⟨b, o', rfl, hR⟩ := HX.out.some_of (by rw [bs_len]; omega)
      obtain ⟨ch, hc⟩ : ∃ ch, l[k]? = some ch := ⟨_, List.getElem?_eq_getElem hk⟩
      have hnext : crcS (l.take (k + 1)) = byteC X ch := by
        rw [List.take_add_one, hc, hX]
        exact crcS_snoc _ _
      have HC := Lib.hid (bs_get hc)
      obtain ⟨Y, hy⟩ : ∃ Y, ch.toUInt32 = Y := ⟨_, rfl⟩
      obtain ⟨X0, hx0⟩ : ∃ X0, X ^^^ Y = X0 := ⟨_, rfl⟩
      rw [byteC_eq, hy, hx0] at hnext
      have HY := Lib.hid hy
      have HX0 := Lib.hid hx0
      have HN := Lib.hid hnext
      clear hnext hy hx0 hX hc
      obtain ⟨g0, hg0'⟩ : ∃ g, g = gk := ⟨_, rfl⟩
      subst hg0'
      have hg0 : 0 < g0 := by have := HG.out; omega
      go_wp2_with (first
    | ((with_reducible refine gLd ?_); refine wl_loadR (k := k) (hR [] _ H) rfl rfl (by first | rfl | omega) T5 HC.out ?_)
    | ((with_reducible refine gCv ?_); refine wl_cvI rfl Try.underlying5 Try.underlying23 (by first | with_reducible exact conv8X HY.out) rfl ?_)
    | ((with_reducible refine gEq ?_); refine wl_bit rfl rfl (by first | exact .inl rfl | exact .inr (.inl rfl) | exact .inr (.inr rfl)) (by first | with_reducible exact bxorX HX0.out) rfl ?_)
    | ((with_reducible refine gLd ?_); refine eLd H rfl rfl ?_; first | (refine kLdB 0 rfl rfl (by first | exact T3 | exact T5 | exact T22 | exact T23 | exact T24 | exact T33 | exact T38 | exact T9 | exact T2 | exact T4 | exact T54 | exact T69 | exact T66 | exact T72) rfl ?_; intro rb hrb; cases rb <;> (first | (exfalso; simp at hrb; done) | ((try simp only [decide_eq_true_eq, decide_eq_false_iff_not, beq_iff_eq, beq_eq_false_iff_ne, ne_eq, bne_iff_ne, bne_eq_false_iff_eq, Bool.not_eq_true', Bool.not_eq_false', gt_iff_lt, ge_iff_le, Int.not_lt, Int.not_le, Decidable.not_not] at hrb); (try subst hrb); (try (exfalso; omega))))) | (refine kLd 0 rfl rfl (by first | exact T3 | exact T5 | exact T22 | exact T23 | exact T24 | exact T33 | exact T38 | exact T9 | exact T2 | exact T4 | exact T54 | exact T69 | exact T66 | exact T72) rfl ?_) | (refine kLdA 0 rfl rfl (by first | exact T3 | exact T5 | exact T22 | exact T23 | exact T24 | exact T33 | exact T38 | exact T9 | exact T2 | exact T4 | exact T54 | exact T69 | exact T66 | exact T72) (Nat.le_of_ble_eq_true rfl) (by simp only [eR, eB, List.drop_succ_cons, List.drop_zero, List.take_succ_cons, List.take_zero, List.set_cons_zero, List.set_cons_succ]; rfl) ?_))
    | ((with_reducible refine gSt ?_); (first | (refine eSt H rfl rfl ⟨.int _ _, rfl, ?_⟩) | (refine eSt H rfl rfl ⟨.bool _, rfl, ?_⟩) | (refine eSt H rfl rfl ⟨.slice _ _ _, rfl, ?_⟩) | (refine eSt H rfl rfl ⟨.pointer _, rfl, ?_⟩) | (refine eSt H rfl rfl ⟨.string _, rfl, ?_⟩) | (refine eSt H rfl rfl ⟨.agg (List.toArray _), rfl, ?_⟩)); (first | (refine kSt 0 rfl rfl (by first | exact T3 | exact T5 | exact T22 | exact T23 | exact T24 | exact T33 | exact T38 | exact T9 | exact T2 | exact T4 | exact T54 | exact T69 | exact T66 | exact T72) rfl (Nat.le_of_ble_eq_true rfl) ?_) | (refine kStA 0 rfl rfl (by first | exact T3 | exact T5 | exact T22 | exact T23 | exact T24 | exact T33 | exact T38 | exact T9 | exact T2 | exact T4 | exact T54 | exact T69 | exact T66 | exact T72) rfl rfl (Nat.le_of_ble_eq_true rfl) ?_)); clear H; intro w1 H; simp only [List.set_cons_zero, List.set_cons_succ] at H; (try simp only [lay, List.take_zero, List.nil_append, List.length_cons, List.length_nil, Nat.zero_add, Nat.reduceAdd, List.drop_succ_cons, List.drop_zero, List.drop_nil, List.append_nil, List.take_succ_cons, List.cons_append] at H))
    | ((with_reducible refine gBx ?_); refine bxA H rfl rfl rfl ?_; clear H; intro b1 w1 H)
    | ((with_reducible refine gBs ?_); (first | (refine bs1 H rfl (by first | exact S22 | exact S54 | exact S61) rfl (Nat.le_of_ble_eq_true rfl) (Nat.le_of_ble_eq_true rfl) rfl ?_) | (refine wl_buildSlice0 rfl (by first | exact S22 | exact S54 | exact S61) H ?_)); clear H; intro b1 w1 H)
    | ((with_reducible refine gEq ?_); (first | (refine wl_cmp rfl rfl rfl rfl ?_) | (refine wl_scmp rfl rfl rfl rfl ?_)); intro rb hrb; cases rb <;> (first | (exfalso; simp at hrb; done) | ((try simp only [decide_eq_true_eq, decide_eq_false_iff_not, beq_iff_eq, beq_eq_false_iff_ne, ne_eq, bne_iff_ne, bne_eq_false_iff_eq, Bool.not_eq_true', Bool.not_eq_false', gt_iff_lt, ge_iff_le, Int.not_lt, Int.not_le, Decidable.not_not] at hrb); (try subst hrb); (try (exfalso; omega)))))
    | ((with_reducible refine gRg ?_); refine wp_region_text rfl (by decide +kernel) ?_; replace H := H.drew)
    | ((with_reducible refine EndQ.intro ?_ ?_); (· kernel_rfl)))
      go_loopg [3, 5] 8 (fun n v3 v17 wr => ∃ (j : Nat) (Y : UInt32), j + n = 8 ∧ v3 = .int .u32 (Y.toNat : Int) ∧ v17 = .int .i64 (j : Int) ∧ Y = iter stepC j X0 ∧ Hp w0 D R wr)
      case atStart => exact ⟨0, X0, by omega, rfl, rfl, rfl, H⟩
      case round =>
        clear H
        obtain ⟨j, Z, hjn, rfl, rfl, hZ, H⟩ := hrel
        have HJ := Lib.hid hjn
        by_cases hj : j < 8
        · clear hjn
          have hgp : 0 < gk := by have := HJ.out; omega
          obtain ⟨z1, hz1⟩ : ∃ z, Z &&& 1 = z := ⟨_, rfl⟩
          obtain ⟨z2, hz2⟩ : ∃ z, Z >>> 1 = z := ⟨_, rfl⟩
          obtain ⟨z3, hz3⟩ : ∃ z, z2 ^^^ 0x82f63b78 = z := ⟨_, rfl⟩
          have hs : iter stepC (j + 1) X0 = if z1 = 1 then z3 else z2 := by
            show stepC (iter stepC j X0) = _
            rw [← hZ, stepC, hz1, hz2, hz3]
          have HS := Lib.hid hs
          have HZ1 := Lib.hid hz1
          have HZ2 := Lib.hid hz2
          have HZ3 := Lib.hid hz3
          clear hs hz1 hz2 hz3 hZ
          by_cases h1 : z1 = 1
          · have hv : (z1.toNat : Int) = 1 := by rw [h1]; rfl
            have HE := Lib.hid h1
            clear h1
            go_wp2_with (first
    | ((with_reducible refine gEq ?_); refine wl_bit rfl rfl (by first | exact .inl rfl | exact .inr (.inl rfl) | exact .inr (.inr rfl)) (by first | with_reducible exact band1 HZ1.out | with_reducible exact bshr1 HZ2.out | with_reducible exact bxorP HZ3.out) rfl ?_)
    | ((with_reducible refine gLd ?_); refine eLd H rfl rfl ?_; first | (refine kLdB 0 rfl rfl (by first | exact T3 | exact T5 | exact T22 | exact T23 | exact T24 | exact T33 | exact T38 | exact T9 | exact T2 | exact T4 | exact T54 | exact T69 | exact T66 | exact T72) rfl ?_; intro rb hrb; cases rb <;> (first | (exfalso; simp at hrb; done) | ((try simp only [decide_eq_true_eq, decide_eq_false_iff_not, beq_iff_eq, beq_eq_false_iff_ne, ne_eq, bne_iff_ne, bne_eq_false_iff_eq, Bool.not_eq_true', Bool.not_eq_false', gt_iff_lt, ge_iff_le, Int.not_lt, Int.not_le, Decidable.not_not] at hrb); (try subst hrb); (try (exfalso; omega))))) | (refine kLd 0 rfl rfl (by first | exact T3 | exact T5 | exact T22 | exact T23 | exact T24 | exact T33 | exact T38 | exact T9 | exact T2 | exact T4 | exact T54 | exact T69 | exact T66 | exact T72) rfl ?_) | (refine kLdA 0 rfl rfl (by first | exact T3 | exact T5 | exact T22 | exact T23 | exact T24 | exact T33 | exact T38 | exact T9 | exact T2 | exact T4 | exact T54 | exact T69 | exact T66 | exact T72) (Nat.le_of_ble_eq_true rfl) (by simp only [eR, eB, List.drop_succ_cons, List.drop_zero, List.take_succ_cons, List.take_zero, List.set_cons_zero, List.set_cons_succ]; rfl) ?_))
    | ((with_reducible refine gSt ?_); (first | (refine eSt H rfl rfl ⟨.int _ _, rfl, ?_⟩) | (refine eSt H rfl rfl ⟨.bool _, rfl, ?_⟩) | (refine eSt H rfl rfl ⟨.slice _ _ _, rfl, ?_⟩) | (refine eSt H rfl rfl ⟨.pointer _, rfl, ?_⟩) | (refine eSt H rfl rfl ⟨.string _, rfl, ?_⟩) | (refine eSt H rfl rfl ⟨.agg (List.toArray _), rfl, ?_⟩)); (first | (refine kSt 0 rfl rfl (by first | exact T3 | exact T5 | exact T22 | exact T23 | exact T24 | exact T33 | exact T38 | exact T9 | exact T2 | exact T4 | exact T54 | exact T69 | exact T66 | exact T72) rfl (Nat.le_of_ble_eq_true rfl) ?_) | (refine kStA 0 rfl rfl (by first | exact T3 | exact T5 | exact T22 | exact T23 | exact T24 | exact T33 | exact T38 | exact T9 | exact T2 | exact T4 | exact T54 | exact T69 | exact T66 | exact T72) rfl rfl (Nat.le_of_ble_eq_true rfl) ?_)); clear H; intro w1 H; simp only [List.set_cons_zero, List.set_cons_succ] at H; (try simp only [lay, List.take_zero, List.nil_append, List.length_cons, List.length_nil, Nat.zero_add, Nat.reduceAdd, List.drop_succ_cons, List.drop_zero, List.drop_nil, List.append_nil, List.take_succ_cons, List.cons_append] at H))
    | ((with_reducible refine gBx ?_); refine bxA H rfl rfl rfl ?_; clear H; intro b1 w1 H)
    | ((with_reducible refine gBs ?_); (first | (refine bs1 H rfl (by first | exact S22 | exact S54 | exact S61) rfl (Nat.le_of_ble_eq_true rfl) (Nat.le_of_ble_eq_true rfl) rfl ?_) | (refine wl_buildSlice0 rfl (by first | exact S22 | exact S54 | exact S61) H ?_)); clear H; intro b1 w1 H)
    | ((with_reducible refine gEq ?_); (first | (refine wl_cmp rfl rfl rfl rfl ?_) | (refine wl_scmp rfl rfl rfl rfl ?_)); intro rb hrb; cases rb <;> (first | (exfalso; simp at hrb; done) | ((try simp only [decide_eq_true_eq, decide_eq_false_iff_not, beq_iff_eq, beq_eq_false_iff_ne, ne_eq, bne_iff_ne, bne_eq_false_iff_eq, Bool.not_eq_true', Bool.not_eq_false', gt_iff_lt, ge_iff_le, Int.not_lt, Int.not_le, Decidable.not_not] at hrb); (try subst hrb); (try (exfalso; omega)))))
    | ((with_reducible refine gRg ?_); refine wp_region_text rfl (by decide +kernel) ?_; replace H := H.drew)
    | ((with_reducible refine EndQ.intro ?_ ?_); (· kernel_rfl)))
            go_roundg (gk - 1)
            case measure => omega
            case rel => exact ⟨j + 1, z3, by have := HJ.out; omega, rfl, by go_num, by rw [HS.out, if_pos HE.out], H⟩
          · have hv : ¬ (z1.toNat : Int) = 1 := fun h => h1 (u32_one h)
            have HE := Lib.hid h1
            clear h1
            go_wp2_with (first
    | ((with_reducible refine gEq ?_); refine wl_bit rfl rfl (by first | exact .inl rfl | exact .inr (.inl rfl) | exact .inr (.inr rfl)) (by first | with_reducible exact band1 HZ1.out | with_reducible exact bshr1 HZ2.out | with_reducible exact bxorP HZ3.out) rfl ?_)
    | ((with_reducible refine gLd ?_); refine eLd H rfl rfl ?_; first | (refine kLdB 0 rfl rfl (by first | exact T3 | exact T5 | exact T22 | exact T23 | exact T24 | exact T33 | exact T38 | exact T9 | exact T2 | exact T4 | exact T54 | exact T69 | exact T66 | exact T72) rfl ?_; intro rb hrb; cases rb <;> (first | (exfalso; simp at hrb; done) | ((try simp only [decide_eq_true_eq, decide_eq_false_iff_not, beq_iff_eq, beq_eq_false_iff_ne, ne_eq, bne_iff_ne, bne_eq_false_iff_eq, Bool.not_eq_true', Bool.not_eq_false', gt_iff_lt, ge_iff_le, Int.not_lt, Int.not_le, Decidable.not_not] at hrb); (try subst hrb); (try (exfalso; omega))))) | (refine kLd 0 rfl rfl (by first | exact T3 | exact T5 | exact T22 | exact T23 | exact T24 | exact T33 | exact T38 | exact T9 | exact T2 | exact T4 | exact T54 | exact T69 | exact T66 | exact T72) rfl ?_) | (refine kLdA 0 rfl rfl (by first | exact T3 | exact T5 | exact T22 | exact T23 | exact T24 | exact T33 | exact T38 | exact T9 | exact T2 | exact T4 | exact T54 | exact T69 | exact T66 | exact T72) (Nat.le_of_ble_eq_true rfl) (by simp only [eR, eB, List.drop_succ_cons, List.drop_zero, List.take_succ_cons, List.take_zero, List.set_cons_zero, List.set_cons_succ]; rfl) ?_))
    | ((with_reducible refine gSt ?_); (first | (refine eSt H rfl rfl ⟨.int _ _, rfl, ?_⟩) | (refine eSt H rfl rfl ⟨.bool _, rfl, ?_⟩) | (refine eSt H rfl rfl ⟨.slice _ _ _, rfl, ?_⟩) | (refine eSt H rfl rfl ⟨.pointer _, rfl, ?_⟩) | (refine eSt H rfl rfl ⟨.string _, rfl, ?_⟩) | (refine eSt H rfl rfl ⟨.agg (List.toArray _), rfl, ?_⟩)); (first | (refine kSt 0 rfl rfl (by first | exact T3 | exact T5 | exact T22 | exact T23 | exact T24 | exact T33 | exact T38 | exact T9 | exact T2 | exact T4 | exact T54 | exact T69 | exact T66 | exact T72) rfl (Nat.le_of_ble_eq_true rfl) ?_) | (refine kStA 0 rfl rfl (by first | exact T3 | exact T5 | exact T22 | exact T23 | exact T24 | exact T33 | exact T38 | exact T9 | exact T2 | exact T4 | exact T54 | exact T69 | exact T66 | exact T72) rfl rfl (Nat.le_of_ble_eq_true rfl) ?_)); clear H; intro w1 H; simp only [List.set_cons_zero, List.set_cons_succ] at H; (try simp only [lay, List.take_zero, List.nil_append, List.length_cons, List.length_nil, Nat.zero_add, Nat.reduceAdd, List.drop_succ_cons, List.drop_zero, List.drop_nil, List.append_nil, List.take_succ_cons, List.cons_append] at H))
    | ((with_reducible refine gBx ?_); refine bxA H rfl rfl rfl ?_; clear H; intro b1 w1 H)
    | ((with_reducible refine gBs ?_); (first | (refine bs1 H rfl (by first | exact S22 | exact S54 | exact S61) rfl (Nat.le_of_ble_eq_true rfl) (Nat.le_of_ble_eq_true rfl) rfl ?_) | (refine wl_buildSlice0 rfl (by first | exact S22 | exact S54 | exact S61) H ?_)); clear H; intro b1 w1 H)
    | ((with_reducible refine gEq ?_); (first | (refine wl_cmp rfl rfl rfl rfl ?_) | (refine wl_scmp rfl rfl rfl rfl ?_)); intro rb hrb; cases rb <;> (first | (exfalso; simp at hrb; done) | ((try simp only [decide_eq_true_eq, decide_eq_false_iff_not, beq_iff_eq, beq_eq_false_iff_ne, ne_eq, bne_iff_ne, bne_eq_false_iff_eq, Bool.not_eq_true', Bool.not_eq_false', gt_iff_lt, ge_iff_le, Int.not_lt, Int.not_le, Decidable.not_not] at hrb); (try subst hrb); (try (exfalso; omega)))))
    | ((with_reducible refine gRg ?_); refine wp_region_text rfl (by decide +kernel) ?_; replace H := H.drew)
    | ((with_reducible refine EndQ.intro ?_ ?_); (· kernel_rfl)))
            go_roundg (gk - 1)
            case measure => omega
            case rel => exact ⟨j + 1, z2, by have := HJ.out; omega, rfl, by go_num, by rw [HS.out, if_neg HE.out], H⟩
        · have hj8 : j = 8 := by omega
          subst hj8
          have HZ := Lib.hid hZ
          clear hjn hZ
          go_wp2_with (first
    | ((with_reducible refine gLd ?_); refine eLd H rfl rfl ?_; first | (refine kLdB 0 rfl rfl (by first | exact T3 | exact T5 | exact T22 | exact T23 | exact T24 | exact T33 | exact T38 | exact T9 | exact T2 | exact T4 | exact T54 | exact T69 | exact T66 | exact T72) rfl ?_; intro rb hrb; cases rb <;> (first | (exfalso; simp at hrb; done) | ((try simp only [decide_eq_true_eq, decide_eq_false_iff_not, beq_iff_eq, beq_eq_false_iff_ne, ne_eq, bne_iff_ne, bne_eq_false_iff_eq, Bool.not_eq_true', Bool.not_eq_false', gt_iff_lt, ge_iff_le, Int.not_lt, Int.not_le, Decidable.not_not] at hrb); (try subst hrb); (try (exfalso; omega))))) | (refine kLd 0 rfl rfl (by first | exact T3 | exact T5 | exact T22 | exact T23 | exact T24 | exact T33 | exact T38 | exact T9 | exact T2 | exact T4 | exact T54 | exact T69 | exact T66 | exact T72) rfl ?_) | (refine kLdA 0 rfl rfl (by first | exact T3 | exact T5 | exact T22 | exact T23 | exact T24 | exact T33 | exact T38 | exact T9 | exact T2 | exact T4 | exact T54 | exact T69 | exact T66 | exact T72) (Nat.le_of_ble_eq_true rfl) (by simp only [eR, eB, List.drop_succ_cons, List.drop_zero, List.take_succ_cons, List.take_zero, List.set_cons_zero, List.set_cons_succ]; rfl) ?_))
    | ((with_reducible refine gSt ?_); (first | (refine eSt H rfl rfl ⟨.int _ _, rfl, ?_⟩) | (refine eSt H rfl rfl ⟨.bool _, rfl, ?_⟩) | (refine eSt H rfl rfl ⟨.slice _ _ _, rfl, ?_⟩) | (refine eSt H rfl rfl ⟨.pointer _, rfl, ?_⟩) | (refine eSt H rfl rfl ⟨.string _, rfl, ?_⟩) | (refine eSt H rfl rfl ⟨.agg (List.toArray _), rfl, ?_⟩)); (first | (refine kSt 0 rfl rfl (by first | exact T3 | exact T5 | exact T22 | exact T23 | exact T24 | exact T33 | exact T38 | exact T9 | exact T2 | exact T4 | exact T54 | exact T69 | exact T66 | exact T72) rfl (Nat.le_of_ble_eq_true rfl) ?_) | (refine kStA 0 rfl rfl (by first | exact T3 | exact T5 | exact T22 | exact T23 | exact T24 | exact T33 | exact T38 | exact T9 | exact T2 | exact T4 | exact T54 | exact T69 | exact T66 | exact T72) rfl rfl (Nat.le_of_ble_eq_true rfl) ?_)); clear H; intro w1 H; simp only [List.set_cons_zero, List.set_cons_succ] at H; (try simp only [lay, List.take_zero, List.nil_append, List.length_cons, List.length_nil, Nat.zero_add, Nat.reduceAdd, List.drop_succ_cons, List.drop_zero, List.drop_nil, List.append_nil, List.take_succ_cons, List.cons_append] at H))
    | ((with_reducible refine gBx ?_); refine bxA H rfl rfl rfl ?_; clear H; intro b1 w1 H)
    | ((with_reducible refine gBs ?_); (first | (refine bs1 H rfl (by first | exact S22 | exact S54 | exact S61) rfl (Nat.le_of_ble_eq_true rfl) (Nat.le_of_ble_eq_true rfl) rfl ?_) | (refine wl_buildSlice0 rfl (by first | exact S22 | exact S54 | exact S61) H ?_)); clear H; intro b1 w1 H)
    | ((with_reducible refine gEq ?_); (first | (refine wl_cmp rfl rfl rfl rfl ?_) | (refine wl_scmp rfl rfl rfl rfl ?_)); intro rb hrb; cases rb <;> (first | (exfalso; simp at hrb; done) | ((try simp only [decide_eq_true_eq, decide_eq_false_iff_not, beq_iff_eq, beq_eq_false_iff_ne, ne_eq, bne_iff_ne, bne_eq_false_iff_eq, Bool.not_eq_true', Bool.not_eq_false', gt_iff_lt, ge_iff_le, Int.not_lt, Int.not_le, Decidable.not_not] at hrb); (try subst hrb); (try (exfalso; omega)))))
    | ((with_reducible refine gRg ?_); refine wp_region_text rfl (by decide +kernel) ?_; replace H := H.drew)
    | ((with_reducible refine EndQ.intro ?_ ?_); (· kernel_rfl)))
          go_roundg (g0 - 1)
          case measure => omega
          case rel => exact ⟨k + 1, Z, by have := HG.out; omega, rfl, by go_num, by rw [HN.out, HZ.out], H⟩
    · have hkl : k = l.length := by omega
      subst hkl
      rw [List.take_length] at hX
      have hz : ~~~X = z := by rw [← HCZ.out, crc, hX]
      have HZ := Lib.hid hz
      clear hkn hX hz
      go_wp2_with (first
    | ((with_reducible refine gUn ?_); refine wl_run rfl (run_notX HZ.out rfl) ?_)
    | ((with_reducible refine gLd ?_); refine eLd H rfl rfl ?_; first | (refine kLdB 0 rfl rfl (by first | exact T3 | exact T5 | exact T22 | exact T23 | exact T24 | exact T33 | exact T38 | exact T9 | exact T2 | exact T4 | exact T54 | exact T69 | exact T66 | exact T72) rfl ?_; intro rb hrb; cases rb <;> (first | (exfalso; simp at hrb; done) | ((try simp only [decide_eq_true_eq, decide_eq_false_iff_not, beq_iff_eq, beq_eq_false_iff_ne, ne_eq, bne_iff_ne, bne_eq_false_iff_eq, Bool.not_eq_true', Bool.not_eq_false', gt_iff_lt, ge_iff_le, Int.not_lt, Int.not_le, Decidable.not_not] at hrb); (try subst hrb); (try (exfalso; omega))))) | (refine kLd 0 rfl rfl (by first | exact T3 | exact T5 | exact T22 | exact T23 | exact T24 | exact T33 | exact T38 | exact T9 | exact T2 | exact T4 | exact T54 | exact T69 | exact T66 | exact T72) rfl ?_) | (refine kLdA 0 rfl rfl (by first | exact T3 | exact T5 | exact T22 | exact T23 | exact T24 | exact T33 | exact T38 | exact T9 | exact T2 | exact T4 | exact T54 | exact T69 | exact T66 | exact T72) (Nat.le_of_ble_eq_true rfl) (by simp only [eR, eB, List.drop_succ_cons, List.drop_zero, List.take_succ_cons, List.take_zero, List.set_cons_zero, List.set_cons_succ]; rfl) ?_))
    | ((with_reducible refine gSt ?_); (first | (refine eSt H rfl rfl ⟨.int _ _, rfl, ?_⟩) | (refine eSt H rfl rfl ⟨.bool _, rfl, ?_⟩) | (refine eSt H rfl rfl ⟨.slice _ _ _, rfl, ?_⟩) | (refine eSt H rfl rfl ⟨.pointer _, rfl, ?_⟩) | (refine eSt H rfl rfl ⟨.string _, rfl, ?_⟩) | (refine eSt H rfl rfl ⟨.agg (List.toArray _), rfl, ?_⟩)); (first | (refine kSt 0 rfl rfl (by first | exact T3 | exact T5 | exact T22 | exact T23 | exact T24 | exact T33 | exact T38 | exact T9 | exact T2 | exact T4 | exact T54 | exact T69 | exact T66 | exact T72) rfl (Nat.le_of_ble_eq_true rfl) ?_) | (refine kStA 0 rfl rfl (by first | exact T3 | exact T5 | exact T22 | exact T23 | exact T24 | exact T33 | exact T38 | exact T9 | exact T2 | exact T4 | exact T54 | exact T69 | exact T66 | exact T72) rfl rfl (Nat.le_of_ble_eq_true rfl) ?_)); clear H; intro w1 H; simp only [List.set_cons_zero, List.set_cons_succ] at H; (try simp only [lay, List.take_zero, List.nil_append, List.length_cons, List.length_nil, Nat.zero_add, Nat.reduceAdd, List.drop_succ_cons, List.drop_zero, List.drop_nil, List.append_nil, List.take_succ_cons, List.cons_append] at H))
    | ((with_reducible refine gBx ?_); refine bxA H rfl rfl rfl ?_; clear H; intro b1 w1 H)
    | ((with_reducible refine gBs ?_); (first | (refine bs1 H rfl (by first | exact S22 | exact S54 | exact S61) rfl (Nat.le_of_ble_eq_true rfl) (Nat.le_of_ble_eq_true rfl) rfl ?_) | (refine wl_buildSlice0 rfl (by first | exact S22 | exact S54 | exact S61) H ?_)); clear H; intro b1 w1 H)
    | ((with_reducible refine gEq ?_); (first | (refine wl_cmp rfl rfl rfl rfl ?_) | (refine wl_scmp rfl rfl rfl rfl ?_)); intro rb hrb; cases rb <;> (first | (exfalso; simp at hrb; done) | ((try simp only [decide_eq_true_eq, decide_eq_false_iff_not, beq_iff_eq, beq_eq_false_iff_ne, ne_eq, bne_iff_ne, bne_eq_false_iff_eq, Bool.not_eq_true', Bool.not_eq_false', gt_iff_lt, ge_iff_le, Int.not_lt, Int.not_le, Decidable.not_not] at hrb); (try subst hrb); (try (exfalso; omega)))))
    | ((with_reducible refine gRg ?_); refine wp_region_text rfl (by decide +kernel) ?_; replace H := H.drew)
    | ((with_reducible refine EndQ.intro ?_ ?_); (· kernel_rfl)))
      go_ret
      exact ⟨rfl, H⟩
end Go.Proofs.Ytajaloaknfbobaa
