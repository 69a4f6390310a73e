/- The order of terms: the comparisons of the library, Compare. -/
import Derived.Test.YtebecelhcpljaaaW24
import Derived.Test.YtebecelhcpljaaaPlainO
import Derived.Deep.Cut
import Derived.WalkKit
import Derived.Lib.Hide
import Derived.Deep.LoopGhost
import Derived.WalkSpells
set_option linter.unusedVariables false
set_option linter.unusedSimpArgs false
namespace Go.Proofs.Ytebecelhcpljaaa
open Go.RowKit Go.Gx Go.Gx.Trm
set_option maxRecDepth 100000
theorem cmpI_lt {x y : Int} (h : x < y) : cmpI x y = -1 := by unfold cmpI; rw [if_pos h]
theorem cmpI_gt {x y : Int} (h : y < x) : cmpI x y = 1 := by unfold cmpI; rw [if_neg (by omega), if_pos h]
theorem cmpI_eq (x : Int) : cmpI x x = 0 := by unfold cmpI; rw [if_neg (by omega), if_neg (by omega)]
theorem cmpS_lt {x y : ByteArray} (h : Op.bytesLess x.toList y.toList = true) : cmpS x y = -1 := by unfold cmpS; rw [if_pos h]
theorem cmpS_gt {x y : ByteArray} (h : Op.bytesLess y.toList x.toList = true) : cmpS x y = 1 := by
  unfold cmpS
  rw [if_neg (fun h2 => by have := bl_tr _ _ _ h h2; rw [bl_irr] at this; cases this), if_pos h]
theorem cmpS_eq (x : ByteArray) : cmpS x x = 0 := cmpS_ok.rfl x
section
variable {P : Program} {w0 w : World} {D : Nat → Prop} {L : List Ent} {a : Act} {ops : Array Oper} {Q : Exit → Act → World → Prop} {rest : List Oper} {K : Act → World → Prop}
theorem wl_slt {m n : ByteArray} {r : Bool} {dst : Option Tmp} {t u ty : TypeId} {x y : Operand} {pos : String} {af : Array Edge} {g : Option (Nat × Bool)} (hr : Op.bytesLess m.toList n.toList = r) (hx : a.eval x = .string m) (hy : a.eval y = .string n)
    (hw : Region.wanted ⟨dst, .binOp .lss t x y u, ty, pos, af, g⟩ (yielded ops a.tmps) = true) (kk : wpList P ops Q rest (a.put dst (.bool r)) w) : wpList P ops Q (⟨dst, .binOp .lss t x y u, ty, pos, af, g⟩ :: rest) a w :=
  wl_run hw (by subst hr; simp [execOp, hx, hy, eqGuard, binOp, Op.stringOp]) kk
theorem wl_sgt {m n : ByteArray} {r : Bool} {dst : Option Tmp} {t u ty : TypeId} {x y : Operand} {pos : String} {af : Array Edge} {g : Option (Nat × Bool)} (hr : (!(Op.bytesLess m.toList n.toList || m.toList == n.toList)) = r) (hx : a.eval x = .string m) (hy : a.eval y = .string n)
    (hw : Region.wanted ⟨dst, .binOp .gtr t x y u, ty, pos, af, g⟩ (yielded ops a.tmps) = true) (kk : wpList P ops Q rest (a.put dst (.bool r)) w) : wpList P ops Q (⟨dst, .binOp .gtr t x y u, ty, pos, af, g⟩ :: rest) a w :=
  wl_run hw (by subst hr; simp [execOp, hx, hy, eqGuard, binOp, Op.stringOp]) kk
theorem gLs {dst : Option Tmp} {t u ty : TypeId} {x y : Operand} {pos : String} {af : Array Edge} {g : Option (Nat × Bool)} (k : wpList P ops Q (⟨dst, .binOp .lss t x y u, ty, pos, af, g⟩ :: rest) a w) : wpList P ops Q (⟨dst, .binOp .lss t x y u, ty, pos, af, g⟩ :: rest) a w := k
theorem gGt {dst : Option Tmp} {t u ty : TypeId} {x y : Operand} {pos : String} {af : Array Edge} {g : Option (Nat × Bool)} (k : wpList P ops Q (⟨dst, .binOp .gtr t x y u, ty, pos, af, g⟩ :: rest) a w) : wpList P ops Q (⟨dst, .binOp .gtr t x y u, ty, pos, af, g⟩ :: rest) a w := k
theorem fillI : ∀ (zs : List Int) (k : Nat) (pre : List Value) (base : Array Value), pre.length = k → base.size = k + zs.length →
    Instr.fill (fun j => some (j, 1)) base (((zs.map (Value.int .i64)).zipIdx k).map fun p => (p.2, p.1)) = some ((base.toList.take k ++ zs.map (Value.int .i64)).toArray)
  | [], k, pre, base, hp, hb => by
    simp only [List.map_nil, List.zipIdx_nil, Instr.fill, List.append_nil]
    rw [List.take_of_length_le (by simp at hb ⊢; omega)]
  | x :: zs, k, pre, base, hp, hb => by
    simp only [List.map_cons, List.zipIdx_cons, List.map_cons]
    unfold Instr.fill
    have hc : (Value.int .i64 x).cells = #[.int .i64 x] := rfl
    simp only [hc]
    simp only [List.length_cons] at hb
    have hb2 : (base.setIfInBounds k (.int .i64 x)).size = k + 1 + zs.length := by simp; omega
    have ih := fillI zs (k + 1) (pre ++ [.int .i64 x]) (base.setIfInBounds k (.int .i64 x)) (by simp [hp]) hb2
    simp
    rw [ih]
    congr 2
    simp only [Array.toList_setIfInBounds]
    have hk : k < base.toList.length := by simp; omega
    rw [List.take_succ_eq_append_getElem (by simpa using by omega)]
    simp
    exact ⟨by simp at hk; omega, List.take_set_of_le (Nat.le_refl _)⟩
theorem oBsI {e : TypeId} {z : Value} {m N : Nat} {vs : List (Nat × Operand)} {zs : List Int} {dst : Option Tmp} {t ty : TypeId} {pos : String} {af : Array Edge} {g : Option (Nat × Bool)} (H : Hp w0 D L w)
    (hv : vs.map (fun p => (p.1, a.eval p.2)) = (zs.map (Value.int .i64)).zipIdx.map (fun p => (p.2, p.1))) (ht : sI P t = some (e, z, 1, m)) (hN : zs.length = N) (h1 : 0 < N) (h2 : N ≤ 1000)
    (k : ∀ b w', Hp w0 D (⟨some b, zs.map (Value.int .i64), e, N⟩ :: L) w' → K (a.put dst (.slice (some ⟨b, 0, none⟩) N N)) w') :
    Oper.wp P ⟨dst, .buildSlice t N vs.toArray, ty, pos, af, g⟩ a w K Q := by
  obtain ⟨hu, i, hi, hz, hs, rfl, hzs⟩ := sI_spec ht
  subst hN
  have hH := H.alloc (zs.map (Value.int .i64)).toArray e (zs.map (Value.int .i64)) (List.take_of_length_le (by simp))
  rw [show (zs.map (Value.int .i64)).toArray.size = zs.length by simp] at hH
  refine wp_run (v := .slice (some ⟨w.heap.size, 0, none⟩) zs.length zs.length) (w' := w.alloc (.cells (zs.map (Value.int .i64)).toArray e)) ?_ (k _ _ hH)
  have hbig : ¬ (2 ^ 24 < zs.length) := by omega
  have hfill : Instr.fill (fun j => some (j, 1)) ((Array.range zs.length).map fun j => z.cells[j % z.cells.size]!) (vs.map (fun p => (p.1, a.eval p.2))) = some (zs.map (Value.int .i64)).toArray := by
    rw [hv]
    exact fillI zs 0 [] _ rfl (by simp)
  have hev : (vs.toArray.map fun p => (p.1, a.eval p.2)).toList = vs.map (fun p => (p.1, a.eval p.2)) := by simp
  simp [execOp, Instr.buildSlice, run_underlying hu, sizeOf, typeInfo, zeroValue, hi, hz, hs, hfill, newRow]
  rw [if_neg (by omega), if_neg (fun h => by subst h; simp at h1)]
end
set_option maxHeartbeats 4000000 in
theorem NaN_i {w0 w : World} {D : Nat → Prop} {R : List Ent}  (H : Hp w0 D (R) w) (m : Int) :
    Calls Try.prog 82 #[.int .i64 m] w fun e w' => e = .returned (.bool false) ∧ Hp w0 D (R) w' := by
  all_goals go_enter Try.func82, Try.ntmps82
  go_wp2_with (first
    | ((with_reducible refine gLd ?_); refine eLd H rfl rfl ?_; first | ((repeat ((with_reducible refine gEx ?_); first | (refine kLd 0 rfl rfl (by exact TT _ rfl) rfl ?_) | (refine kLdA 0 rfl rfl (by exact TT _ rfl) (Nat.le_of_ble_eq_true rfl) (by simp only [Nd.cells, Nd.zero, LS2]; rfl) ?_) | (refine nxL ?_))); fail_if_success (with_reducible refine gEx ?_)))
    | ((with_reducible refine gEq ?_); (first | (refine wl_cmp rfl rfl rfl rfl ?_) | (refine wl_scmp rfl rfl rfl rfl ?_)); intro rb hrb; cases rb <;> (first | (exfalso; simp at hrb; done) | ((try simp only [CS1, gt_iff_lt, ge_iff_le, ne_eq, Decidable.not_not] at hrb); (try subst hrb); (try (exfalso; omega)))))
    | ((with_reducible refine gRg ?_); refine wp_region_text rfl (by decide +kernel) ?_; replace H := H.drew)
    | ((with_reducible refine EndQ.intro ?_ ?_); (· kernel_rfl)))
  all_goals go_ret
  all_goals exact ⟨rfl, H⟩
set_option maxHeartbeats 4000000 in
theorem NaN_u {w0 w : World} {D : Nat → Prop} {R : List Ent}  (H : Hp w0 D (R) w) (m : Int) :
    Calls Try.prog 83 #[.int .u64 m] w fun e w' => e = .returned (.bool false) ∧ Hp w0 D (R) w' := by
  all_goals go_enter Try.func83, Try.ntmps83
  go_wp2_with (first
    | ((with_reducible refine gLd ?_); refine eLd H rfl rfl ?_; first | ((repeat ((with_reducible refine gEx ?_); first | (refine kLd 0 rfl rfl (by exact TT _ rfl) rfl ?_) | (refine kLdA 0 rfl rfl (by exact TT _ rfl) (Nat.le_of_ble_eq_true rfl) (by simp only [Nd.cells, Nd.zero, LS2]; rfl) ?_) | (refine nxL ?_))); fail_if_success (with_reducible refine gEx ?_)))
    | ((with_reducible refine gEq ?_); (first | (refine wl_cmp rfl rfl rfl rfl ?_) | (refine wl_scmp rfl rfl rfl rfl ?_)); intro rb hrb; cases rb <;> (first | (exfalso; simp at hrb; done) | ((try simp only [CS1, gt_iff_lt, ge_iff_le, ne_eq, Decidable.not_not] at hrb); (try subst hrb); (try (exfalso; omega)))))
    | ((with_reducible refine gRg ?_); refine wp_region_text rfl (by decide +kernel) ?_; replace H := H.drew)
    | ((with_reducible refine EndQ.intro ?_ ?_); (· kernel_rfl)))
  all_goals go_ret
  all_goals exact ⟨rfl, H⟩
set_option maxHeartbeats 4000000 in
theorem NaN_s {w0 w : World} {D : Nat → Prop} {R : List Ent}  (H : Hp w0 D (R) w) (m : ByteArray) :
    Calls Try.prog 84 #[.string m] w fun e w' => e = .returned (.bool false) ∧ Hp w0 D (R) w' := by
  all_goals go_enter Try.func84, Try.ntmps84
  go_wp2_with (first
    | ((with_reducible refine gLd ?_); refine eLd H rfl rfl ?_; first | ((repeat ((with_reducible refine gEx ?_); first | (refine kLd 0 rfl rfl (by exact TT _ rfl) rfl ?_) | (refine kLdA 0 rfl rfl (by exact TT _ rfl) (Nat.le_of_ble_eq_true rfl) (by simp only [Nd.cells, Nd.zero, LS2]; rfl) ?_) | (refine nxL ?_))); fail_if_success (with_reducible refine gEx ?_)))
    | ((with_reducible refine gEq ?_); (first | (refine wl_cmp rfl rfl rfl rfl ?_) | (refine wl_scmp rfl rfl rfl rfl ?_)); intro rb hrb; cases rb <;> (first | (exfalso; simp at hrb; done) | ((try simp only [CS1, gt_iff_lt, ge_iff_le, ne_eq, Decidable.not_not] at hrb); (try subst hrb); (try (exfalso; omega)))))
    | ((with_reducible refine gRg ?_); refine wp_region_text rfl (by decide +kernel) ?_; replace H := H.drew)
    | ((with_reducible refine EndQ.intro ?_ ?_); (· kernel_rfl)))
  all_goals go_ret
  all_goals exact ⟨rfl, H⟩
set_option maxHeartbeats 4000000 in
theorem Cmp_i {w0 w : World} {D : Nat → Prop} {R : List Ent}  (H : Hp w0 D (R) w) (m n : Int) :
    Calls Try.prog 66 #[.int .i64 m, .int .i64 n] w fun e w' => e = .returned (.int .i64 (cmpI m n)) ∧ Hp w0 D (R) w' := by
  rcases Int.lt_trichotomy m n with h | rfl | h
  · rw [cmpI_lt h]
    go_enter Try.func66, Try.ntmps66
    go_wp2_with (first
    | (go_at_call 82; (with_reducible refine (NaN_i H _).mono ?_); rintro e w1 ⟨rfl, H1⟩; clear H; have H := H1; clear H1)
    | ((with_reducible refine gLd ?_); refine eLd H rfl rfl ?_; first | ((repeat ((with_reducible refine gEx ?_); first | (refine kLd 0 rfl rfl (by exact TT _ rfl) rfl ?_) | (refine kLdA 0 rfl rfl (by exact TT _ rfl) (Nat.le_of_ble_eq_true rfl) (by simp only [Nd.cells, Nd.zero, LS2]; rfl) ?_) | (refine nxL ?_))); fail_if_success (with_reducible refine gEx ?_)))
    | ((with_reducible refine gEq ?_); (first | (refine wl_cmp rfl rfl rfl rfl ?_) | (refine wl_scmp rfl rfl rfl rfl ?_)); intro rb hrb; cases rb <;> (first | (exfalso; simp at hrb; done) | ((try simp only [CS1, gt_iff_lt, ge_iff_le, ne_eq, Decidable.not_not] at hrb); (try subst hrb); (try (exfalso; omega)))))
    | ((with_reducible refine gRg ?_); refine wp_region_text rfl (by decide +kernel) ?_; replace H := H.drew)
    | ((with_reducible refine EndQ.intro ?_ ?_); (· kernel_rfl)))
    all_goals go_ret
    all_goals exact ⟨rfl, H⟩
  · rw [cmpI_eq]
    go_enter Try.func66, Try.ntmps66
    go_wp2_with (first
    | (go_at_call 82; (with_reducible refine (NaN_i H _).mono ?_); rintro e w1 ⟨rfl, H1⟩; clear H; have H := H1; clear H1)
    | ((with_reducible refine gLd ?_); refine eLd H rfl rfl ?_; first | ((repeat ((with_reducible refine gEx ?_); first | (refine kLd 0 rfl rfl (by exact TT _ rfl) rfl ?_) | (refine kLdA 0 rfl rfl (by exact TT _ rfl) (Nat.le_of_ble_eq_true rfl) (by simp only [Nd.cells, Nd.zero, LS2]; rfl) ?_) | (refine nxL ?_))); fail_if_success (with_reducible refine gEx ?_)))
    | ((with_reducible refine gEq ?_); (first | (refine wl_cmp rfl rfl rfl rfl ?_) | (refine wl_scmp rfl rfl rfl rfl ?_)); intro rb hrb; cases rb <;> (first | (exfalso; simp at hrb; done) | ((try simp only [CS1, gt_iff_lt, ge_iff_le, ne_eq, Decidable.not_not] at hrb); (try subst hrb); (try (exfalso; omega)))))
    | ((with_reducible refine gRg ?_); refine wp_region_text rfl (by decide +kernel) ?_; replace H := H.drew)
    | ((with_reducible refine EndQ.intro ?_ ?_); (· kernel_rfl)))
    all_goals go_ret
    all_goals exact ⟨rfl, H⟩
  · rw [cmpI_gt h]
    go_enter Try.func66, Try.ntmps66
    go_wp2_with (first
    | (go_at_call 82; (with_reducible refine (NaN_i H _).mono ?_); rintro e w1 ⟨rfl, H1⟩; clear H; have H := H1; clear H1)
    | ((with_reducible refine gLd ?_); refine eLd H rfl rfl ?_; first | ((repeat ((with_reducible refine gEx ?_); first | (refine kLd 0 rfl rfl (by exact TT _ rfl) rfl ?_) | (refine kLdA 0 rfl rfl (by exact TT _ rfl) (Nat.le_of_ble_eq_true rfl) (by simp only [Nd.cells, Nd.zero, LS2]; rfl) ?_) | (refine nxL ?_))); fail_if_success (with_reducible refine gEx ?_)))
    | ((with_reducible refine gEq ?_); (first | (refine wl_cmp rfl rfl rfl rfl ?_) | (refine wl_scmp rfl rfl rfl rfl ?_)); intro rb hrb; cases rb <;> (first | (exfalso; simp at hrb; done) | ((try simp only [CS1, gt_iff_lt, ge_iff_le, ne_eq, Decidable.not_not] at hrb); (try subst hrb); (try (exfalso; omega)))))
    | ((with_reducible refine gRg ?_); refine wp_region_text rfl (by decide +kernel) ?_; replace H := H.drew)
    | ((with_reducible refine EndQ.intro ?_ ?_); (· kernel_rfl)))
    all_goals go_ret
    all_goals exact ⟨rfl, H⟩
set_option maxHeartbeats 4000000 in
theorem Cmp_u {w0 w : World} {D : Nat → Prop} {R : List Ent}  (H : Hp w0 D (R) w) (m n : Int) :
    Calls Try.prog 67 #[.int .u64 m, .int .u64 n] w fun e w' => e = .returned (.int .i64 (cmpI m n)) ∧ Hp w0 D (R) w' := by
  rcases Int.lt_trichotomy m n with h | rfl | h
  · rw [cmpI_lt h]
    go_enter Try.func67, Try.ntmps67
    go_wp2_with (first
    | (go_at_call 83; (with_reducible refine (NaN_u H _).mono ?_); rintro e w1 ⟨rfl, H1⟩; clear H; have H := H1; clear H1)
    | ((with_reducible refine gLd ?_); refine eLd H rfl rfl ?_; first | ((repeat ((with_reducible refine gEx ?_); first | (refine kLd 0 rfl rfl (by exact TT _ rfl) rfl ?_) | (refine kLdA 0 rfl rfl (by exact TT _ rfl) (Nat.le_of_ble_eq_true rfl) (by simp only [Nd.cells, Nd.zero, LS2]; rfl) ?_) | (refine nxL ?_))); fail_if_success (with_reducible refine gEx ?_)))
    | ((with_reducible refine gEq ?_); (first | (refine wl_cmp rfl rfl rfl rfl ?_) | (refine wl_scmp rfl rfl rfl rfl ?_)); intro rb hrb; cases rb <;> (first | (exfalso; simp at hrb; done) | ((try simp only [CS1, gt_iff_lt, ge_iff_le, ne_eq, Decidable.not_not] at hrb); (try subst hrb); (try (exfalso; omega)))))
    | ((with_reducible refine gRg ?_); refine wp_region_text rfl (by decide +kernel) ?_; replace H := H.drew)
    | ((with_reducible refine EndQ.intro ?_ ?_); (· kernel_rfl)))
    all_goals go_ret
    all_goals exact ⟨rfl, H⟩
  · rw [cmpI_eq]
    go_enter Try.func67, Try.ntmps67
    go_wp2_with (first
    | (go_at_call 83; (with_reducible refine (NaN_u H _).mono ?_); rintro e w1 ⟨rfl, H1⟩; clear H; have H := H1; clear H1)
    | ((with_reducible refine gLd ?_); refine eLd H rfl rfl ?_; first | ((repeat ((with_reducible refine gEx ?_); first | (refine kLd 0 rfl rfl (by exact TT _ rfl) rfl ?_) | (refine kLdA 0 rfl rfl (by exact TT _ rfl) (Nat.le_of_ble_eq_true rfl) (by simp only [Nd.cells, Nd.zero, LS2]; rfl) ?_) | (refine nxL ?_))); fail_if_success (with_reducible refine gEx ?_)))
    | ((with_reducible refine gEq ?_); (first | (refine wl_cmp rfl rfl rfl rfl ?_) | (refine wl_scmp rfl rfl rfl rfl ?_)); intro rb hrb; cases rb <;> (first | (exfalso; simp at hrb; done) | ((try simp only [CS1, gt_iff_lt, ge_iff_le, ne_eq, Decidable.not_not] at hrb); (try subst hrb); (try (exfalso; omega)))))
    | ((with_reducible refine gRg ?_); refine wp_region_text rfl (by decide +kernel) ?_; replace H := H.drew)
    | ((with_reducible refine EndQ.intro ?_ ?_); (· kernel_rfl)))
    all_goals go_ret
    all_goals exact ⟨rfl, H⟩
  · rw [cmpI_gt h]
    go_enter Try.func67, Try.ntmps67
    go_wp2_with (first
    | (go_at_call 83; (with_reducible refine (NaN_u H _).mono ?_); rintro e w1 ⟨rfl, H1⟩; clear H; have H := H1; clear H1)
    | ((with_reducible refine gLd ?_); refine eLd H rfl rfl ?_; first | ((repeat ((with_reducible refine gEx ?_); first | (refine kLd 0 rfl rfl (by exact TT _ rfl) rfl ?_) | (refine kLdA 0 rfl rfl (by exact TT _ rfl) (Nat.le_of_ble_eq_true rfl) (by simp only [Nd.cells, Nd.zero, LS2]; rfl) ?_) | (refine nxL ?_))); fail_if_success (with_reducible refine gEx ?_)))
    | ((with_reducible refine gEq ?_); (first | (refine wl_cmp rfl rfl rfl rfl ?_) | (refine wl_scmp rfl rfl rfl rfl ?_)); intro rb hrb; cases rb <;> (first | (exfalso; simp at hrb; done) | ((try simp only [CS1, gt_iff_lt, ge_iff_le, ne_eq, Decidable.not_not] at hrb); (try subst hrb); (try (exfalso; omega)))))
    | ((with_reducible refine gRg ?_); refine wp_region_text rfl (by decide +kernel) ?_; replace H := H.drew)
    | ((with_reducible refine EndQ.intro ?_ ?_); (· kernel_rfl)))
    all_goals go_ret
    all_goals exact ⟨rfl, H⟩
set_option maxHeartbeats 4000000 in
theorem order_ {w0 w : World} {D : Nat → Prop} {R : List Ent}  (H : Hp w0 D (R) w) (m n : Int) :
    Calls Try.prog 69 #[.int .i64 m, .int .i64 n] w fun e w' => e = .returned (.int .i64 (cmpI m n)) ∧ Hp w0 D (R) w' := by
  rcases Int.lt_trichotomy m n with h | rfl | h
  · rw [cmpI_lt h]
    go_enter Try.func69, Try.ntmps69
    go_wp2_with (first
    | ((with_reducible refine gLd ?_); refine eLd H rfl rfl ?_; first | ((repeat ((with_reducible refine gEx ?_); first | (refine kLd 0 rfl rfl (by exact TT _ rfl) rfl ?_) | (refine kLdA 0 rfl rfl (by exact TT _ rfl) (Nat.le_of_ble_eq_true rfl) (by simp only [Nd.cells, Nd.zero, LS2]; rfl) ?_) | (refine nxL ?_))); fail_if_success (with_reducible refine gEx ?_)))
    | ((with_reducible refine gEq ?_); (first | (refine wl_cmp rfl rfl rfl rfl ?_) | (refine wl_scmp rfl rfl rfl rfl ?_)); intro rb hrb; cases rb <;> (first | (exfalso; simp at hrb; done) | ((try simp only [CS1, gt_iff_lt, ge_iff_le, ne_eq, Decidable.not_not] at hrb); (try subst hrb); (try (exfalso; omega)))))
    | ((with_reducible refine gRg ?_); refine wp_region_text rfl (by decide +kernel) ?_; replace H := H.drew)
    | ((with_reducible refine EndQ.intro ?_ ?_); (· kernel_rfl)))
    all_goals go_ret
    all_goals exact ⟨rfl, H⟩
  · rw [cmpI_eq]
    go_enter Try.func69, Try.ntmps69
    go_wp2_with (first
    | ((with_reducible refine gLd ?_); refine eLd H rfl rfl ?_; first | ((repeat ((with_reducible refine gEx ?_); first | (refine kLd 0 rfl rfl (by exact TT _ rfl) rfl ?_) | (refine kLdA 0 rfl rfl (by exact TT _ rfl) (Nat.le_of_ble_eq_true rfl) (by simp only [Nd.cells, Nd.zero, LS2]; rfl) ?_) | (refine nxL ?_))); fail_if_success (with_reducible refine gEx ?_)))
    | ((with_reducible refine gEq ?_); (first | (refine wl_cmp rfl rfl rfl rfl ?_) | (refine wl_scmp rfl rfl rfl rfl ?_)); intro rb hrb; cases rb <;> (first | (exfalso; simp at hrb; done) | ((try simp only [CS1, gt_iff_lt, ge_iff_le, ne_eq, Decidable.not_not] at hrb); (try subst hrb); (try (exfalso; omega)))))
    | ((with_reducible refine gRg ?_); refine wp_region_text rfl (by decide +kernel) ?_; replace H := H.drew)
    | ((with_reducible refine EndQ.intro ?_ ?_); (· kernel_rfl)))
    all_goals go_ret
    all_goals exact ⟨rfl, H⟩
  · rw [cmpI_gt h]
    go_enter Try.func69, Try.ntmps69
    go_wp2_with (first
    | ((with_reducible refine gLd ?_); refine eLd H rfl rfl ?_; first | ((repeat ((with_reducible refine gEx ?_); first | (refine kLd 0 rfl rfl (by exact TT _ rfl) rfl ?_) | (refine kLdA 0 rfl rfl (by exact TT _ rfl) (Nat.le_of_ble_eq_true rfl) (by simp only [Nd.cells, Nd.zero, LS2]; rfl) ?_) | (refine nxL ?_))); fail_if_success (with_reducible refine gEx ?_)))
    | ((with_reducible refine gEq ?_); (first | (refine wl_cmp rfl rfl rfl rfl ?_) | (refine wl_scmp rfl rfl rfl rfl ?_)); intro rb hrb; cases rb <;> (first | (exfalso; simp at hrb; done) | ((try simp only [CS1, gt_iff_lt, ge_iff_le, ne_eq, Decidable.not_not] at hrb); (try subst hrb); (try (exfalso; omega)))))
    | ((with_reducible refine gRg ?_); refine wp_region_text rfl (by decide +kernel) ?_; replace H := H.drew)
    | ((with_reducible refine EndQ.intro ?_ ?_); (· kernel_rfl)))
    all_goals go_ret
    all_goals exact ⟨rfl, H⟩
set_option maxHeartbeats 4000000 in
theorem Cmp_s {w0 w : World} {D : Nat → Prop} {R : List Ent} {r : Int} (H : Hp w0 D (R) w) (m n : ByteArray) (hr : cmpS m n = r) :
    Calls Try.prog 68 #[.string m, .string n] w fun e w' => e = .returned (.int .i64 r) ∧ Hp w0 D (R) w' := by
  subst hr
  cases h1 : Op.bytesLess m.toList n.toList with
  | true =>
    rw [cmpS_lt h1]
    have HA1 := Lib.hid h1
    clear h1
    go_enter Try.func68, Try.ntmps68
    go_wp2_with (first
    | (go_at_call 84; (with_reducible refine (NaN_s H _).mono ?_); rintro e w1 ⟨rfl, H1⟩; clear H; have H := H1; clear H1)
    | ((with_reducible refine gLs ?_); refine wl_slt (m := m) (n := n) HA1.out rfl rfl rfl ?_)
    | ((with_reducible refine gGt ?_); refine wl_sgt (m := m) (n := n) HA2.out rfl rfl rfl ?_)
    | ((with_reducible refine gLd ?_); refine eLd H rfl rfl ?_; first | ((repeat ((with_reducible refine gEx ?_); first | (refine kLd 0 rfl rfl (by exact TT _ rfl) rfl ?_) | (refine kLdA 0 rfl rfl (by exact TT _ rfl) (Nat.le_of_ble_eq_true rfl) (by simp only [Nd.cells, Nd.zero, LS2]; rfl) ?_) | (refine nxL ?_))); fail_if_success (with_reducible refine gEx ?_)))
    | ((with_reducible refine gEq ?_); (first | (refine wl_cmp rfl rfl rfl rfl ?_) | (refine wl_scmp rfl rfl rfl rfl ?_)); intro rb hrb; cases rb <;> (first | (exfalso; simp at hrb; done) | ((try simp only [CS1, gt_iff_lt, ge_iff_le, ne_eq, Decidable.not_not] at hrb); (try subst hrb); (try (exfalso; omega)))))
    | ((with_reducible refine gRg ?_); refine wp_region_text rfl (by decide +kernel) ?_; replace H := H.drew)
    | ((with_reducible refine EndQ.intro ?_ ?_); (· kernel_rfl)))
    all_goals go_ret
    all_goals exact ⟨rfl, H⟩
  | false =>
    cases h2 : Op.bytesLess n.toList m.toList with
    | true =>
      rw [cmpS_gt h2]
      have hne : (m.toList == n.toList) = false := by
        rw [beq_eq_false_iff_ne]
        intro h
        rw [h, bl_irr] at h2; cases h2
      have HA1 := Lib.hid h1
      have HA2 : Hid ((!(Op.bytesLess m.toList n.toList || m.toList == n.toList)) = true) := Lib.hid (by rw [h1, hne]; rfl)
      clear h1 h2 hne
      go_enter Try.func68, Try.ntmps68
      go_wp2_with (first
    | (go_at_call 84; (with_reducible refine (NaN_s H _).mono ?_); rintro e w1 ⟨rfl, H1⟩; clear H; have H := H1; clear H1)
    | ((with_reducible refine gLs ?_); refine wl_slt (m := m) (n := n) HA1.out rfl rfl rfl ?_)
    | ((with_reducible refine gGt ?_); refine wl_sgt (m := m) (n := n) HA2.out rfl rfl rfl ?_)
    | ((with_reducible refine gLd ?_); refine eLd H rfl rfl ?_; first | ((repeat ((with_reducible refine gEx ?_); first | (refine kLd 0 rfl rfl (by exact TT _ rfl) rfl ?_) | (refine kLdA 0 rfl rfl (by exact TT _ rfl) (Nat.le_of_ble_eq_true rfl) (by simp only [Nd.cells, Nd.zero, LS2]; rfl) ?_) | (refine nxL ?_))); fail_if_success (with_reducible refine gEx ?_)))
    | ((with_reducible refine gEq ?_); (first | (refine wl_cmp rfl rfl rfl rfl ?_) | (refine wl_scmp rfl rfl rfl rfl ?_)); intro rb hrb; cases rb <;> (first | (exfalso; simp at hrb; done) | ((try simp only [CS1, gt_iff_lt, ge_iff_le, ne_eq, Decidable.not_not] at hrb); (try subst hrb); (try (exfalso; omega)))))
    | ((with_reducible refine gRg ?_); refine wp_region_text rfl (by decide +kernel) ?_; replace H := H.drew)
    | ((with_reducible refine EndQ.intro ?_ ?_); (· kernel_rfl)))
      all_goals go_ret
      all_goals exact ⟨rfl, H⟩
    | false =>
      have he := bl_tri _ _ h1 h2
      have he2 : m = n := sEq_iff.1 (by unfold sEq; rw [beq_iff_eq]; exact he)
      subst he2
      rw [cmpS_eq]
      have HA1 := Lib.hid h1
      have HA2 : Hid ((!(Op.bytesLess m.toList m.toList || m.toList == m.toList)) = false) := Lib.hid (by simp)
      clear h1 h2 he
      go_enter Try.func68, Try.ntmps68
      go_wp2_with (first
    | (go_at_call 84; (with_reducible refine (NaN_s H _).mono ?_); rintro e w1 ⟨rfl, H1⟩; clear H; have H := H1; clear H1)
    | ((with_reducible refine gLs ?_); refine wl_slt (m := m) (n := m) HA1.out rfl rfl rfl ?_)
    | ((with_reducible refine gGt ?_); refine wl_sgt (m := m) (n := m) HA2.out rfl rfl rfl ?_)
    | ((with_reducible refine gLd ?_); refine eLd H rfl rfl ?_; first | ((repeat ((with_reducible refine gEx ?_); first | (refine kLd 0 rfl rfl (by exact TT _ rfl) rfl ?_) | (refine kLdA 0 rfl rfl (by exact TT _ rfl) (Nat.le_of_ble_eq_true rfl) (by simp only [Nd.cells, Nd.zero, LS2]; rfl) ?_) | (refine nxL ?_))); fail_if_success (with_reducible refine gEx ?_)))
    | ((with_reducible refine gEq ?_); (first | (refine wl_cmp rfl rfl rfl rfl ?_) | (refine wl_scmp rfl rfl rfl rfl ?_)); intro rb hrb; cases rb <;> (first | (exfalso; simp at hrb; done) | ((try simp only [CS1, gt_iff_lt, ge_iff_le, ne_eq, Decidable.not_not] at hrb); (try subst hrb); (try (exfalso; omega)))))
    | ((with_reducible refine gRg ?_); refine wp_region_text rfl (by decide +kernel) ?_; replace H := H.drew)
    | ((with_reducible refine EndQ.intro ?_ ?_); (· kernel_rfl)))
      all_goals go_ret
      all_goals exact ⟨rfl, H⟩
set_option maxHeartbeats 4000000 in
theorem Or_spec {w0 w : World} {D : Nat → Prop} {R : List Ent} {i b c N M : Nat} {zs : List Int} {r : Int} (H : Hp w0 D (R) w) (hi : R[i]? = some ⟨some b, zs.map (Value.int .i64), 3, M⟩) (hN : zs.length = N) (hs : (N : Int) ≤ 1000) (hr : orE zs = r) :
    Calls Try.prog 65 #[.slice (some ⟨b, 0, none⟩) N c] w fun e w' => e = .returned (.int .i64 r) ∧ Hp w0 D (R) w' := by
  have HN := Lib.hid hN
  clear hN
  go_enter Try.func65, Try.ntmps65
  go_wp2_with (first
    | ((with_reducible refine gLd ?_); refine eLd H rfl rfl ?_; first | ((repeat ((with_reducible refine gEx ?_); first | (refine kLd 0 rfl rfl (by exact TT _ rfl) rfl ?_) | (refine kLdA 0 rfl rfl (by exact TT _ rfl) (Nat.le_of_ble_eq_true rfl) (by simp only [Nd.cells, Nd.zero, LS2]; rfl) ?_) | (refine nxL ?_))); fail_if_success (with_reducible refine gEx ?_)))
    | ((with_reducible refine gEq ?_); (first | (refine wl_cmp rfl rfl rfl rfl ?_) | (refine wl_scmp rfl rfl rfl rfl ?_)); intro rb hrb; cases rb <;> (first | (exfalso; simp at hrb; done) | ((try simp only [CS1, gt_iff_lt, ge_iff_le, ne_eq, Decidable.not_not] at hrb); (try subst hrb); (try (exfalso; omega)))))
    | ((with_reducible refine gRg ?_); refine wp_region_text rfl (by decide +kernel) ?_; replace H := H.drew)
    | ((with_reducible refine EndQ.intro ?_ ?_); (· kernel_rfl)))
  go_loopg [8] N (fun g v8 wr => ∃ k : Nat, v8 = .int .i64 (k : Int) ∧ k + g = N ∧ Hid (orE (zs.drop k) = r) ∧ Hp w0 D R wr)
  case atStart => exact ⟨0, rfl, by omega, Lib.hid hr, H⟩
  case round =>
    clear H hr
    obtain ⟨k, rfl, hkg, HR, H⟩ := hrel
    have HKG := Lib.hid hkg
    by_cases hk : k < N
    · obtain ⟨z, hz⟩ : ∃ z, zs[k]? = some z := ⟨_, List.getElem?_eq_getElem (by rw [HN.out]; exact hk)⟩
      have HZ : Hid ((zs.map (Value.int .i64))[k]? = some (.int .i64 z)) := Lib.hid (by simp [hz])
      have hst := HR.out
      obtain ⟨hlt, he⟩ := List.getElem?_eq_some_iff.1 hz
      rw [List.drop_eq_getElem_cons hlt, he] at hst
      simp only [orE] at hst
      by_cases h0 : z = 0
      · subst h0
        rw [if_pos rfl] at hst
        have HR2 := Lib.hid hst
        clear hst hkg HR he hlt hz
        go_wp2_with (first
    | ((with_reducible refine gLd ?_); refine eLd H rfl rfl ?_; refine kLd i hi rfl T3 HZ.out ?_)
    | ((with_reducible refine gLd ?_); refine eLd H rfl rfl ?_; first | ((repeat ((with_reducible refine gEx ?_); first | (refine kLd 0 rfl rfl (by exact TT _ rfl) rfl ?_) | (refine kLdA 0 rfl rfl (by exact TT _ rfl) (Nat.le_of_ble_eq_true rfl) (by simp only [Nd.cells, Nd.zero, LS2]; rfl) ?_) | (refine nxL ?_))); fail_if_success (with_reducible refine gEx ?_)))
    | ((with_reducible refine gEq ?_); (first | (refine wl_cmp rfl rfl rfl rfl ?_) | (refine wl_scmp rfl rfl rfl rfl ?_)); intro rb hrb; cases rb <;> (first | (exfalso; simp at hrb; done) | ((try simp only [CS1, gt_iff_lt, ge_iff_le, ne_eq, Decidable.not_not] at hrb); (try subst hrb); (try (exfalso; omega)))))
    | ((with_reducible refine gRg ?_); refine wp_region_text rfl (by decide +kernel) ?_; replace H := H.drew)
    | ((with_reducible refine EndQ.intro ?_ ?_); (· kernel_rfl)))
        go_roundg (gk - 1)
        case measure => have := HKG.out; omega
        case rel => exact ⟨k + 1, by go_num, by have := HKG.out; omega, HR2, H⟩
      · rw [if_neg h0] at hst
        subst hst
        clear hkg HR he hlt hz
        go_wp2_with (first
    | ((with_reducible refine gLd ?_); refine eLd H rfl rfl ?_; refine kLd i hi rfl T3 HZ.out ?_)
    | ((with_reducible refine gLd ?_); refine eLd H rfl rfl ?_; first | ((repeat ((with_reducible refine gEx ?_); first | (refine kLd 0 rfl rfl (by exact TT _ rfl) rfl ?_) | (refine kLdA 0 rfl rfl (by exact TT _ rfl) (Nat.le_of_ble_eq_true rfl) (by simp only [Nd.cells, Nd.zero, LS2]; rfl) ?_) | (refine nxL ?_))); fail_if_success (with_reducible refine gEx ?_)))
    | ((with_reducible refine gEq ?_); (first | (refine wl_cmp rfl rfl rfl rfl ?_) | (refine wl_scmp rfl rfl rfl rfl ?_)); intro rb hrb; cases rb <;> (first | (exfalso; simp at hrb; done) | ((try simp only [CS1, gt_iff_lt, ge_iff_le, ne_eq, Decidable.not_not] at hrb); (try subst hrb); (try (exfalso; omega)))))
    | ((with_reducible refine gRg ?_); refine wp_region_text rfl (by decide +kernel) ?_; replace H := H.drew)
    | ((with_reducible refine EndQ.intro ?_ ?_); (· kernel_rfl)))
        go_ret
        exact ⟨rfl, H⟩
    · have hst := HR.out
      rw [List.drop_of_length_le (by rw [HN.out]; omega)] at hst
      simp only [orE] at hst
      subst hst
      clear hkg HR
      go_wp2_with (first
    | ((with_reducible refine gLd ?_); refine eLd H rfl rfl ?_; first | ((repeat ((with_reducible refine gEx ?_); first | (refine kLd 0 rfl rfl (by exact TT _ rfl) rfl ?_) | (refine kLdA 0 rfl rfl (by exact TT _ rfl) (Nat.le_of_ble_eq_true rfl) (by simp only [Nd.cells, Nd.zero, LS2]; rfl) ?_) | (refine nxL ?_))); fail_if_success (with_reducible refine gEx ?_)))
    | ((with_reducible refine gEq ?_); (first | (refine wl_cmp rfl rfl rfl rfl ?_) | (refine wl_scmp rfl rfl rfl rfl ?_)); intro rb hrb; cases rb <;> (first | (exfalso; simp at hrb; done) | ((try simp only [CS1, gt_iff_lt, ge_iff_le, ne_eq, Decidable.not_not] at hrb); (try subst hrb); (try (exfalso; omega)))))
    | ((with_reducible refine gRg ?_); refine wp_region_text rfl (by decide +kernel) ?_; replace H := H.drew)
    | ((with_reducible refine EndQ.intro ?_ ?_); (· kernel_rfl)))
      go_ret
      exact ⟨rfl, H⟩
end Go.Proofs.Ytebecelhcpljaaa
