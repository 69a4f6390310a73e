/- What functions of layer 5 compute. -/
import Derived.Test.YtebecelhcpljaaaW3
import Derived.Test.YtebecelhcpljaaaW4
import Derived.WalkKit
import Derived.Lib.Hide
import Derived.Deep.LoopGhost
import Derived.WalkSpells
set_option linter.unusedVariables false
set_option linter.unusedSimpArgs false
namespace Go.Proofs.Ytebecelhcpljaaa
open Go.RowKit Go.Gx Go.Gx.Trm
set_option maxRecDepth 100000
theorem sh_cells (k : Int) : ∃ f t u x kd, shRow k = [.bool f, .bool t, .bool u, .bool x, .int .i64 kd] ∧ 0 ≤ kd ∧ kd ≤ 2 ∧ (kOk k = true → named k = f ∧ two k = t ∧ kidsN k = kd) := by
  cases h : kOk k with
  | false => exact ⟨_, _, _, _, _, shRow_no h, by omega, by omega, by simp⟩
  | true => exact ⟨_, _, _, _, _, shRow_yes h, (kidsN_le k).1, (kidsN_le k).2, fun _ => ⟨rfl, rfl, rfl⟩⟩
theorem own_ok {n : Nd} (h : own n = true) : kOk n.kind = true := by unfold own at h; simp at h; exact h.1.1.1.1
theorem plain_at {w0 w : World} {D : Nat → Prop} {R : List Ent} (H : Hp w0 D R w) {n : Nd} {f t u x : Bool} {kd e1 : Int} (hs : shRow n.kind = [.bool f, .bool t, .bool u, .bool x, .int .i64 kd]) (h1 : plainE n = e1) :
    Calls Try.prog 76 #[.agg n.cells.toArray] w fun e w' => e = .returned (.tuple #[.agg (List.toArray [.bool f, .bool t, .bool u, .bool x, .int .i64 kd]), .int .i64 e1]) ∧ Hp w0 D R w' := by
  have := plain_spec H n
  rw [hs, h1] at this
  exact this
set_option maxHeartbeats 4000000 in
theorem check_own {w0 w : World} {D : Nat → Prop} {R : List Ent} {pv : Value} (H : Hp w0 D (R) w) (n : Nd) (ho : own n = false) :
    Calls Try.prog 70 #[pv, .agg n.cells.toArray] w fun e w' => e = .returned (.tuple #[.int .i64 0, .int .i64 0, .int .i64 53]) ∧ Hp w0 D (R) w' := by
  obtain ⟨f, t, u, x, kd, hs, hk0, hk2, _⟩ := sh_cells n.kind
  obtain ⟨k, fr, ds, nu, tx, na, nb⟩ := n
  have HS := Lib.hid hs
  have HE1 := Lib.hid (plainE_f ho)
  clear hs ho
  simp only [Nd.cells] at HS HE1 ⊢
  go_enter Try.func70, Try.ntmps70
  go_wp2_with (first
    | (go_at_call 76; (refine (plain_at (n := ⟨k, fr, ds, nu, tx, na, nb⟩) H HS.out HE1.out).mono ?_; rintro e w1 ⟨rfl, H1⟩; clear H; have H := H1; clear H1))
    | ((with_reducible refine gLd ?_); refine eLd H rfl rfl ?_; first | (refine kLdB 0 rfl rfl (by exact TT _ rfl) rfl ?_; intro rb hrb; cases rb <;> (first | (exfalso; simp at hrb; done) | ((try simp only [CS1, gt_iff_lt, ge_iff_le, ne_eq, Decidable.not_not] at hrb); (try subst hrb); (try (exfalso; omega))))) | (refine kLdB 1 rfl rfl (by exact TT _ rfl) rfl ?_; intro rb hrb; cases rb <;> (first | (exfalso; simp at hrb; done) | ((try simp only [CS1, gt_iff_lt, ge_iff_le, ne_eq, Decidable.not_not] at hrb); (try subst hrb); (try (exfalso; omega))))) | (refine kLdB 2 rfl rfl (by exact TT _ rfl) rfl ?_; intro rb hrb; cases rb <;> (first | (exfalso; simp at hrb; done) | ((try simp only [CS1, gt_iff_lt, ge_iff_le, ne_eq, Decidable.not_not] at hrb); (try subst hrb); (try (exfalso; omega))))) | ((repeat ((with_reducible refine gEx ?_); first | (refine kLd 0 rfl rfl (by exact TT _ rfl) rfl ?_) | (refine kLdA 0 rfl rfl (by exact TT _ rfl) (Nat.le_of_ble_eq_true rfl) (by simp only [Nd.cells, Nd.zero, eP, eE, LS2]; rfl) ?_) | (refine nxL ?_))); fail_if_success (with_reducible refine gEx ?_)))
    | ((with_reducible refine gSt ?_); (first | (refine eSt H rfl rfl ⟨.int _ _, rfl, ?_⟩) | (refine eSt H rfl rfl ⟨.bool _, rfl, ?_⟩) | (refine eSt H rfl rfl ⟨.slice _ _ _, rfl, ?_⟩) | (refine eSt H rfl rfl ⟨.pointer _, rfl, ?_⟩) | (refine eSt H rfl rfl ⟨.string _, rfl, ?_⟩) | (refine eSt H rfl rfl ⟨.agg (List.toArray _), rfl, ?_⟩)); (first | ((repeat ((with_reducible refine gES ?_); first | (refine kSt 0 rfl rfl (by exact TT _ rfl) rfl (Nat.le_of_ble_eq_true rfl) ?_) | (refine kStA 0 rfl rfl (by exact TT _ rfl) rfl rfl (Nat.le_of_ble_eq_true rfl) ?_) | (refine nxS ?_))); fail_if_success (with_reducible refine gES ?_))); clear H; intro w1 H; simp only [List.set_cons_zero, List.set_cons_succ] at H; (try simp only [lay, LS1, Nat.reduceAdd] at H))
    | ((with_reducible refine gBx ?_); refine bxA H rfl rfl rfl ?_; clear H; intro b1 w1 H)
    | ((with_reducible refine gBs ?_); (first | (refine bs1 H rfl (by exact SS _ rfl) rfl (Nat.le_of_ble_eq_true rfl) (Nat.le_of_ble_eq_true rfl) rfl ?_) | (refine wl_buildSlice0 rfl (by exact SS _ rfl) H ?_)); clear H; intro b1 w1 H)
    | ((with_reducible refine gEq ?_); (first | (refine wl_cmp rfl rfl rfl rfl ?_) | (refine wl_scmp rfl rfl rfl rfl ?_)); intro rb hrb; cases rb <;> (first | (exfalso; simp at hrb; done) | ((try simp only [CS1, gt_iff_lt, ge_iff_le, ne_eq, Decidable.not_not] at hrb); (try subst hrb); (try (exfalso; omega)))))
    | ((with_reducible refine gAl ?_); (first | (refine al H Z33 rfl rfl ?_) | (refine al H Z110 rfl rfl ?_) | (refine al H Z122 rfl rfl ?_)); clear H; intro b1 w1 H)
    | ((with_reducible refine gRg ?_); refine wp_region_text rfl (by decide +kernel) ?_; replace H := H.drew)
    | ((with_reducible refine EndQ.intro ?_ ?_); (· kernel_rfl)))
  all_goals go_ret3
  all_goals exact ⟨rfl, H.drop.drop⟩
set_option maxHeartbeats 4000000 in
theorem check_kids {w0 w : World} {D : Nat → Prop} {R : List Ent} {pv : Value} {f t u x : Bool} {kd : Int} (H : Hp w0 D (R) w) (n : Nd) (ho : own n = true) (hs : shRow n.kind = [.bool f, .bool t, .bool u, .bool x, .int .i64 kd]) (hk0 : 0 ≤ kd) (hk2 : kd ≤ 2) (hb : (kd < 1 ∧ n.a ≠ 0) ∨ (kd < 2 ∧ n.b ≠ 0)) :
    Calls Try.prog 70 #[pv, .agg n.cells.toArray] w fun e w' => e = .returned (.tuple #[.int .i64 0, .int .i64 0, .int .i64 53]) ∧ Hp w0 D (R) w' := by
  obtain ⟨k, fr, ds, nu, tx, na, nb⟩ := n
  dsimp only at *
  have HS := Lib.hid hs
  have HE1 := Lib.hid (plainE_t ho)
  clear hs ho
  simp only [Nd.cells] at HS HE1 ⊢
  have hb9 : (kd = 0 ∧ ¬ na = 0) ∨ (kd = 0 ∧ na = 0 ∧ ¬ nb = 0) ∨ (kd = 1 ∧ ¬ nb = 0) := by omega
  clear hb
  clear hk0 hk2
  rcases hb9 with ⟨rfl, h2⟩ | ⟨rfl, rfl, h3⟩ | ⟨rfl, h3⟩
  all_goals go_enter Try.func70, Try.ntmps70
  all_goals go_wp2_with (first
    | (go_at_call 76; (refine (plain_at (n := ⟨k, fr, ds, nu, tx, _, _⟩) H HS.out HE1.out).mono ?_; rintro e w1 ⟨rfl, H1⟩; clear H; have H := H1; clear H1))
    | ((with_reducible refine gLd ?_); refine eLd H rfl rfl ?_; first | (refine kLdB 0 rfl rfl (by exact TT _ rfl) rfl ?_; intro rb hrb; cases rb <;> (first | (exfalso; simp at hrb; done) | ((try simp only [CS1, gt_iff_lt, ge_iff_le, ne_eq, Decidable.not_not] at hrb); (try subst hrb); (try (exfalso; omega))))) | (refine kLdB 1 rfl rfl (by exact TT _ rfl) rfl ?_; intro rb hrb; cases rb <;> (first | (exfalso; simp at hrb; done) | ((try simp only [CS1, gt_iff_lt, ge_iff_le, ne_eq, Decidable.not_not] at hrb); (try subst hrb); (try (exfalso; omega))))) | (refine kLdB 2 rfl rfl (by exact TT _ rfl) rfl ?_; intro rb hrb; cases rb <;> (first | (exfalso; simp at hrb; done) | ((try simp only [CS1, gt_iff_lt, ge_iff_le, ne_eq, Decidable.not_not] at hrb); (try subst hrb); (try (exfalso; omega))))) | ((repeat ((with_reducible refine gEx ?_); first | (refine kLd 0 rfl rfl (by exact TT _ rfl) rfl ?_) | (refine kLdA 0 rfl rfl (by exact TT _ rfl) (Nat.le_of_ble_eq_true rfl) (by simp only [Nd.cells, Nd.zero, eP, eE, LS2]; rfl) ?_) | (refine nxL ?_))); fail_if_success (with_reducible refine gEx ?_)))
    | ((with_reducible refine gSt ?_); (first | (refine eSt H rfl rfl ⟨.int _ _, rfl, ?_⟩) | (refine eSt H rfl rfl ⟨.bool _, rfl, ?_⟩) | (refine eSt H rfl rfl ⟨.slice _ _ _, rfl, ?_⟩) | (refine eSt H rfl rfl ⟨.pointer _, rfl, ?_⟩) | (refine eSt H rfl rfl ⟨.string _, rfl, ?_⟩) | (refine eSt H rfl rfl ⟨.agg (List.toArray _), rfl, ?_⟩)); (first | ((repeat ((with_reducible refine gES ?_); first | (refine kSt 0 rfl rfl (by exact TT _ rfl) rfl (Nat.le_of_ble_eq_true rfl) ?_) | (refine kStA 0 rfl rfl (by exact TT _ rfl) rfl rfl (Nat.le_of_ble_eq_true rfl) ?_) | (refine nxS ?_))); fail_if_success (with_reducible refine gES ?_))); clear H; intro w1 H; simp only [List.set_cons_zero, List.set_cons_succ] at H; (try simp only [lay, LS1, Nat.reduceAdd] at H))
    | ((with_reducible refine gBx ?_); refine bxA H rfl rfl rfl ?_; clear H; intro b1 w1 H)
    | ((with_reducible refine gBs ?_); (first | (refine bs1 H rfl (by exact SS _ rfl) rfl (Nat.le_of_ble_eq_true rfl) (Nat.le_of_ble_eq_true rfl) rfl ?_) | (refine wl_buildSlice0 rfl (by exact SS _ rfl) H ?_)); clear H; intro b1 w1 H)
    | ((with_reducible refine gEq ?_); (first | (refine wl_cmp rfl rfl rfl rfl ?_) | (refine wl_scmp rfl rfl rfl rfl ?_)); intro rb hrb; cases rb <;> (first | (exfalso; simp at hrb; done) | ((try simp only [CS1, gt_iff_lt, ge_iff_le, ne_eq, Decidable.not_not] at hrb); (try subst hrb); (try (exfalso; omega)))))
    | ((with_reducible refine gAl ?_); (first | (refine al H Z33 rfl rfl ?_) | (refine al H Z110 rfl rfl ?_) | (refine al H Z122 rfl rfl ?_)); clear H; intro b1 w1 H)
    | ((with_reducible refine gRg ?_); refine wp_region_text rfl (by decide +kernel) ?_; replace H := H.drew)
    | ((with_reducible refine EndQ.intro ?_ ?_); (· kernel_rfl)))
  all_goals go_ret3
  all_goals exact ⟨rfl, H.drop.drop⟩
set_option maxHeartbeats 4000000 in
theorem check_fields {w0 w : World} {D : Nat → Prop} {R : List Ent} {pv : Value} {f t u x : Bool} {kd : Int} {e5 : Int} (H : Hp w0 D (R) w) (n : Nd) (ho : own n = true) (hs : shRow n.kind = [.bool f, .bool t, .bool u, .bool x, .int .i64 kd]) (he5 : (if (f && !nm n.frm) || (t && (!nm n.dst || n.dst == n.frm)) then (50 : Int) else if 64 < n.text.size then 1 else 0) = e5) (h5 : ¬ e5 = 0) (hg : (kd = 0 ∧ n.a = 0 ∧ n.b = 0) ∨ (kd = 1 ∧ n.b = 0) ∨ kd = 2) :
    Calls Try.prog 70 #[pv, .agg n.cells.toArray] w fun e w' => e = .returned (.tuple #[.int .i64 0, .int .i64 0, .int .i64 e5]) ∧ Hp w0 D (R) w' := by
  obtain ⟨k, fr, ds, nu, tx, na, nb⟩ := n
  dsimp only at *
  have HS := Lib.hid hs
  have HE1 := Lib.hid (plainE_t ho)
  have HE5 := Lib.hid he5
  clear hs ho he5
  simp only [Nd.cells] at HS HE1 ⊢
  rcases hg with ⟨rfl, rfl, rfl⟩ | ⟨rfl, rfl⟩ | rfl
  all_goals go_enter Try.func70, Try.ntmps70
  all_goals go_wp2_with (first
    | (go_at_call 76; (refine (plain_at (n := ⟨k, fr, ds, nu, tx, _, _⟩) H HS.out HE1.out).mono ?_; rintro e w1 ⟨rfl, H1⟩; clear H; have H := H1; clear H1))
    | (go_at_call 77; (refine (fields_at H ⟨k, fr, ds, nu, tx, _, _⟩ HE5.out).mono ?_; rintro e w1 ⟨rfl, H1⟩; clear H; have H := H1; clear H1))
    | ((with_reducible refine gLd ?_); refine eLd H rfl rfl ?_; first | (refine kLdB 0 rfl rfl (by exact TT _ rfl) rfl ?_; intro rb hrb; cases rb <;> (first | (exfalso; simp at hrb; done) | ((try simp only [CS1, gt_iff_lt, ge_iff_le, ne_eq, Decidable.not_not] at hrb); (try subst hrb); (try (exfalso; omega))))) | (refine kLdB 1 rfl rfl (by exact TT _ rfl) rfl ?_; intro rb hrb; cases rb <;> (first | (exfalso; simp at hrb; done) | ((try simp only [CS1, gt_iff_lt, ge_iff_le, ne_eq, Decidable.not_not] at hrb); (try subst hrb); (try (exfalso; omega))))) | (refine kLdB 2 rfl rfl (by exact TT _ rfl) rfl ?_; intro rb hrb; cases rb <;> (first | (exfalso; simp at hrb; done) | ((try simp only [CS1, gt_iff_lt, ge_iff_le, ne_eq, Decidable.not_not] at hrb); (try subst hrb); (try (exfalso; omega))))) | ((repeat ((with_reducible refine gEx ?_); first | (refine kLd 0 rfl rfl (by exact TT _ rfl) rfl ?_) | (refine kLdA 0 rfl rfl (by exact TT _ rfl) (Nat.le_of_ble_eq_true rfl) (by simp only [Nd.cells, Nd.zero, eP, eE, LS2]; rfl) ?_) | (refine nxL ?_))); fail_if_success (with_reducible refine gEx ?_)))
    | ((with_reducible refine gSt ?_); (first | (refine eSt H rfl rfl ⟨.int _ _, rfl, ?_⟩) | (refine eSt H rfl rfl ⟨.bool _, rfl, ?_⟩) | (refine eSt H rfl rfl ⟨.slice _ _ _, rfl, ?_⟩) | (refine eSt H rfl rfl ⟨.pointer _, rfl, ?_⟩) | (refine eSt H rfl rfl ⟨.string _, rfl, ?_⟩) | (refine eSt H rfl rfl ⟨.agg (List.toArray _), rfl, ?_⟩)); (first | ((repeat ((with_reducible refine gES ?_); first | (refine kSt 0 rfl rfl (by exact TT _ rfl) rfl (Nat.le_of_ble_eq_true rfl) ?_) | (refine kStA 0 rfl rfl (by exact TT _ rfl) rfl rfl (Nat.le_of_ble_eq_true rfl) ?_) | (refine nxS ?_))); fail_if_success (with_reducible refine gES ?_))); clear H; intro w1 H; simp only [List.set_cons_zero, List.set_cons_succ] at H; (try simp only [lay, LS1, Nat.reduceAdd] at H))
    | ((with_reducible refine gBx ?_); refine bxA H rfl rfl rfl ?_; clear H; intro b1 w1 H)
    | ((with_reducible refine gBs ?_); (first | (refine bs1 H rfl (by exact SS _ rfl) rfl (Nat.le_of_ble_eq_true rfl) (Nat.le_of_ble_eq_true rfl) rfl ?_) | (refine wl_buildSlice0 rfl (by exact SS _ rfl) H ?_)); clear H; intro b1 w1 H)
    | ((with_reducible refine gEq ?_); (first | (refine wl_cmp rfl rfl rfl rfl ?_) | (refine wl_scmp rfl rfl rfl rfl ?_)); intro rb hrb; cases rb <;> (first | (exfalso; simp at hrb; done) | ((try simp only [CS1, gt_iff_lt, ge_iff_le, ne_eq, Decidable.not_not] at hrb); (try subst hrb); (try (exfalso; omega)))))
    | ((with_reducible refine gAl ?_); (first | (refine al H Z33 rfl rfl ?_) | (refine al H Z110 rfl rfl ?_) | (refine al H Z122 rfl rfl ?_)); clear H; intro b1 w1 H)
    | ((with_reducible refine gRg ?_); refine wp_region_text rfl (by decide +kernel) ?_; replace H := H.drew)
    | ((with_reducible refine EndQ.intro ?_ ?_); (· kernel_rfl)))
  all_goals go_ret3
  all_goals exact ⟨rfl, H.drop.drop⟩
end Go.Proofs.Ytebecelhcpljaaa
