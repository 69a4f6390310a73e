/- The document's small ones: two, name, named, Kids, plain, shape. -/
import Derived.Test.YtebecelhcpljaaaW3
import Derived.WalkKit
import Derived.Lib.Hide
import Derived.Deep.LoopGhost
import Derived.WalkSpells
set_option linter.unusedVariables false
set_option linter.unusedSimpArgs false
namespace Go.Proofs.Ytebecelhcpljaaa
open Go.RowKit Go.Gx Go.Gx.Trm
set_option maxRecDepth 100000
theorem kind_cases (k : Int) : k = 1 ∨ k = 2 ∨ k = 3 ∨ k = 4 ∨ k = 5 ∨ k = 6 ∨ k = 7 ∨ k = 8 ∨ k = 9 ∨ (¬ k = 1 ∧ ¬ k = 2 ∧ ¬ k = 3 ∧ ¬ k = 4 ∧ ¬ k = 5 ∧ ¬ k = 6 ∧ ¬ k = 7 ∧ ¬ k = 8 ∧ ¬ k = 9) := by omega
set_option maxHeartbeats 4000000 in
theorem two_at {w0 w : World} {D : Nat → Prop} {R : List Ent} {k : Int} {r : Bool} (H : Hp w0 D (R) w) (hr : two k = r) :
    Calls Try.prog 74 #[.int .i64 k] w fun e w' => e = .returned (.bool r) ∧ Hp w0 D (R) w' := by
  rcases kind_cases k with rfl | rfl | rfl | rfl | rfl | rfl | rfl | rfl | rfl | ⟨g1, g2, g3, g4, g5, g6, g7, g8, g9⟩
  all_goals (first | (have e9 : r = true := by (rw [← hr]; simp [two, *]; done)) | (have e9 : r = false := by (rw [← hr]; simp [two, *]; done)))
  all_goals (subst e9; clear hr)
  all_goals go_enter Try.func74, Try.ntmps74
  all_goals go_wp2_with (first
    | ((with_reducible refine gEq ?_); (first | (refine wl_cmp rfl rfl rfl rfl ?_) | (refine wl_scmp rfl rfl rfl rfl ?_)); intro rb hrb; cases rb <;> (first | (exfalso; simp at hrb; done) | ((try simp only [CS1, gt_iff_lt, ge_iff_le, ne_eq, Decidable.not_not] at hrb); (try subst hrb); (try (exfalso; omega))))))
  all_goals go_ret
  all_goals exact ⟨rfl, H⟩
theorem two_no {k : Int} (h8 : ¬ k = 8) (h9 : ¬ k = 9) : two k = false := by simp [two, h8, h9]
set_option maxHeartbeats 4000000 in
theorem named_at {w0 w : World} {D : Nat → Prop} {R : List Ent} {k : Int} {r : Bool} (H : Hp w0 D (R) w) (hr : named k = r) :
    Calls Try.prog 72 #[.int .i64 k] w fun e w' => e = .returned (.bool r) ∧ Hp w0 D (R) w' := by
  rcases kind_cases k with rfl | rfl | rfl | rfl | rfl | rfl | rfl | rfl | rfl | ⟨g1, g2, g3, g4, g5, g6, g7, g8, g9⟩
  all_goals (first | (have e9 : r = true := by (rw [← hr]; simp [named, two, *]; done)) | (have e9 : r = false := by (rw [← hr]; simp [named, two, *]; done)))
  all_goals (subst e9; clear hr)
  all_goals go_enter Try.func72, Try.ntmps72
  all_goals go_wp2_with (first
    | (go_at_call 74; first | ((refine (two_at (r := false) H (two_no g8 g9)).mono ?_); rintro e w1 ⟨rfl, H1⟩; clear H; have H := H1; clear H1) | ((refine (two_at (r := false) H (by decide)).mono ?_); rintro e w1 ⟨rfl, H1⟩; clear H; have H := H1; clear H1) | ((refine (two_at (r := true) H (by decide)).mono ?_); rintro e w1 ⟨rfl, H1⟩; clear H; have H := H1; clear H1))
    | ((with_reducible refine gEq ?_); (first | (refine wl_cmp rfl rfl rfl rfl ?_) | (refine wl_scmp rfl rfl rfl rfl ?_)); intro rb hrb; cases rb <;> (first | (exfalso; simp at hrb; done) | ((try simp only [CS1, gt_iff_lt, ge_iff_le, ne_eq, Decidable.not_not] at hrb); (try subst hrb); (try (exfalso; omega))))))
  all_goals go_ret
  all_goals exact ⟨rfl, H⟩
set_option maxHeartbeats 4000000 in
theorem kidsN_at {w0 w : World} {D : Nat → Prop} {R : List Ent} {k : Int} {r : Int} (H : Hp w0 D (R) w) (hr : kidsN k = r) :
    Calls Try.prog 49 #[.int .i64 k] w fun e w' => e = .returned (.int .i64 r) ∧ Hp w0 D (R) w' := by
  rcases kind_cases k with rfl | rfl | rfl | rfl | rfl | rfl | rfl | rfl | rfl | ⟨g1, g2, g3, g4, g5, g6, g7, g8, g9⟩
  all_goals (first | (have e9 : r = 0 := by (rw [← hr]; simp [kidsN, *]; done)) | (have e9 : r = 1 := by (rw [← hr]; simp [kidsN, *]; done)) | (have e9 : r = 2 := by (rw [← hr]; simp [kidsN, *]; done)))
  all_goals (subst e9; clear hr)
  all_goals go_enter Try.func49, Try.ntmps49
  all_goals go_wp2_with (first
    | ((with_reducible refine gEq ?_); (first | (refine wl_cmp rfl rfl rfl rfl ?_) | (refine wl_scmp rfl rfl rfl rfl ?_)); intro rb hrb; cases rb <;> (first | (exfalso; simp at hrb; done) | ((try simp only [CS1, gt_iff_lt, ge_iff_le, ne_eq, Decidable.not_not] at hrb); (try subst hrb); (try (exfalso; omega))))))
  all_goals go_ret
  all_goals exact ⟨rfl, H⟩
set_option maxHeartbeats 4000000 in
theorem name_at {w0 w : World} {D : Nat → Prop} {R : List Ent} {k : Int} {r : Bool} (H : Hp w0 D (R) w) (hr : nm k = r) :
    Calls Try.prog 73 #[.int .i64 k] w fun e w' => e = .returned (.bool r) ∧ Hp w0 D (R) w' := by
  subst hr
  rcases nm_cases k with ⟨h1, h3⟩ | ⟨h1, h2, h3⟩ | ⟨h1, h2, h3⟩
  all_goals rw [h3]
  all_goals clear h3
  all_goals go_enter Try.func73, Try.ntmps73
  all_goals go_wp2_with (first
    | ((with_reducible refine gEq ?_); (first | (refine wl_cmp rfl rfl rfl rfl ?_) | (refine wl_scmp rfl rfl rfl rfl ?_)); intro rb hrb; cases rb <;> (first | (exfalso; simp at hrb; done) | ((try simp only [CS1, gt_iff_lt, ge_iff_le, ne_eq, Decidable.not_not] at hrb); (try subst hrb); (try (exfalso; omega))))))
  all_goals go_ret
  all_goals exact ⟨rfl, H⟩
set_option maxHeartbeats 4000000 in
theorem rplain_1 {w0 w : World} {D : Nat → Prop} {R : List Ent} {r : Bool} {fr ds nu na nb : Int} {tx : ByteArray} (H : Hp w0 D (R) w) (hr : plainN ⟨1, fr, ds, nu, tx, na, nb⟩ = r) :
    Calls Try.prog 71 #[.agg (List.toArray [.int .i64 1, .int .i64 fr, .int .i64 ds, .int .u64 nu, .string tx, .int .i64 na, .int .i64 nb])] w fun e w' => e = .returned (.bool r) ∧ Hp w0 D (R) w' := by
  have HR := Lib.hid hr
  clear hr
  go_enter Try.func71, Try.ntmps71
  go_wp2_with (first
    | (go_at_call 72; ((refine (named_at (k := 1) (r := true) H (by decide)).mono ?_); rintro e w1 ⟨rfl, H1⟩; clear H; have H := H1; clear H1))
    | (go_at_call 74; ((refine (two_at (k := 1) (r := false) H (by decide)).mono ?_); rintro e w1 ⟨rfl, H1⟩; clear H; have H := H1; clear H1))
    | (go_at_call 49; ((refine (kidsN_at (k := 1) (r := 0) H (by decide)).mono ?_); rintro e w1 ⟨rfl, H1⟩; clear H; have H := H1; clear H1))
    | ((with_reducible refine gLd ?_); refine eLd H rfl rfl ?_; first | ((repeat ((with_reducible refine gEx ?_); first | (refine kLd 0 rfl rfl (by exact TT _ rfl) rfl ?_) | (refine kLdA 0 rfl rfl (by exact TT _ rfl) (Nat.le_of_ble_eq_true rfl) (by simp only [Nd.cells, Nd.zero, eP, eE, LS2]; rfl) ?_) | (refine nxL ?_))); fail_if_success (with_reducible refine gEx ?_)))
    | ((with_reducible refine gBx ?_); refine bxA H rfl rfl rfl ?_; clear H; intro b1 w1 H)
    | ((with_reducible refine gEq ?_); (first | (refine wl_cmp rfl rfl rfl rfl ?_) | (refine wl_scmp rfl rfl rfl rfl ?_)); intro rb hrb; cases rb <;> (first | (exfalso; simp at hrb; done) | ((try simp only [CS1, gt_iff_lt, ge_iff_le, ne_eq, Decidable.not_not] at hrb); (try subst hrb); (try (exfalso; omega))))))
  all_goals (have e9 := HR.out; (first | (have e8 : sEq tx ⟨#[]⟩ = true := (by unfold sEq; rw [beq_iff_eq]; assumption)) | (have e8 : sEq tx ⟨#[]⟩ = false := (by unfold sEq; rw [beq_eq_false_iff_ne]; assumption)) | skip); clear e9; (first | (have e9 : r = true := by (rw [← HR.out]; simp [plainN, own, kOk, named, two, kidsN, *]; done)) | (have e9 : r = false := by (rw [← HR.out]; simp [plainN, own, kOk, named, two, kidsN, *]; done))); subst e9; go_ret; exact ⟨rfl, H.drop⟩)
set_option maxHeartbeats 4000000 in
theorem rplain_2 {w0 w : World} {D : Nat → Prop} {R : List Ent} {r : Bool} {fr ds nu na nb : Int} {tx : ByteArray} (H : Hp w0 D (R) w) (hr : plainN ⟨2, fr, ds, nu, tx, na, nb⟩ = r) :
    Calls Try.prog 71 #[.agg (List.toArray [.int .i64 2, .int .i64 fr, .int .i64 ds, .int .u64 nu, .string tx, .int .i64 na, .int .i64 nb])] w fun e w' => e = .returned (.bool r) ∧ Hp w0 D (R) w' := by
  have HR := Lib.hid hr
  clear hr
  go_enter Try.func71, Try.ntmps71
  go_wp2_with (first
    | (go_at_call 72; ((refine (named_at (k := 2) (r := false) H (by decide)).mono ?_); rintro e w1 ⟨rfl, H1⟩; clear H; have H := H1; clear H1))
    | (go_at_call 74; ((refine (two_at (k := 2) (r := false) H (by decide)).mono ?_); rintro e w1 ⟨rfl, H1⟩; clear H; have H := H1; clear H1))
    | (go_at_call 49; ((refine (kidsN_at (k := 2) (r := 0) H (by decide)).mono ?_); rintro e w1 ⟨rfl, H1⟩; clear H; have H := H1; clear H1))
    | ((with_reducible refine gLd ?_); refine eLd H rfl rfl ?_; first | ((repeat ((with_reducible refine gEx ?_); first | (refine kLd 0 rfl rfl (by exact TT _ rfl) rfl ?_) | (refine kLdA 0 rfl rfl (by exact TT _ rfl) (Nat.le_of_ble_eq_true rfl) (by simp only [Nd.cells, Nd.zero, eP, eE, LS2]; rfl) ?_) | (refine nxL ?_))); fail_if_success (with_reducible refine gEx ?_)))
    | ((with_reducible refine gBx ?_); refine bxA H rfl rfl rfl ?_; clear H; intro b1 w1 H)
    | ((with_reducible refine gEq ?_); (first | (refine wl_cmp rfl rfl rfl rfl ?_) | (refine wl_scmp rfl rfl rfl rfl ?_)); intro rb hrb; cases rb <;> (first | (exfalso; simp at hrb; done) | ((try simp only [CS1, gt_iff_lt, ge_iff_le, ne_eq, Decidable.not_not] at hrb); (try subst hrb); (try (exfalso; omega))))))
  all_goals (have e9 := HR.out; (first | (have e8 : sEq tx ⟨#[]⟩ = true := (by unfold sEq; rw [beq_iff_eq]; assumption)) | (have e8 : sEq tx ⟨#[]⟩ = false := (by unfold sEq; rw [beq_eq_false_iff_ne]; assumption)) | skip); clear e9; (first | (have e9 : r = true := by (rw [← HR.out]; simp [plainN, own, kOk, named, two, kidsN, *]; done)) | (have e9 : r = false := by (rw [← HR.out]; simp [plainN, own, kOk, named, two, kidsN, *]; done))); subst e9; go_ret; exact ⟨rfl, H.drop⟩)
set_option maxHeartbeats 4000000 in
theorem rplain_3 {w0 w : World} {D : Nat → Prop} {R : List Ent} {r : Bool} {fr ds nu na nb : Int} {tx : ByteArray} (H : Hp w0 D (R) w) (hr : plainN ⟨3, fr, ds, nu, tx, na, nb⟩ = r) :
    Calls Try.prog 71 #[.agg (List.toArray [.int .i64 3, .int .i64 fr, .int .i64 ds, .int .u64 nu, .string tx, .int .i64 na, .int .i64 nb])] w fun e w' => e = .returned (.bool r) ∧ Hp w0 D (R) w' := by
  have HR := Lib.hid hr
  clear hr
  go_enter Try.func71, Try.ntmps71
  go_wp2_with (first
    | (go_at_call 72; ((refine (named_at (k := 3) (r := false) H (by decide)).mono ?_); rintro e w1 ⟨rfl, H1⟩; clear H; have H := H1; clear H1))
    | (go_at_call 74; ((refine (two_at (k := 3) (r := false) H (by decide)).mono ?_); rintro e w1 ⟨rfl, H1⟩; clear H; have H := H1; clear H1))
    | (go_at_call 49; ((refine (kidsN_at (k := 3) (r := 0) H (by decide)).mono ?_); rintro e w1 ⟨rfl, H1⟩; clear H; have H := H1; clear H1))
    | ((with_reducible refine gLd ?_); refine eLd H rfl rfl ?_; first | ((repeat ((with_reducible refine gEx ?_); first | (refine kLd 0 rfl rfl (by exact TT _ rfl) rfl ?_) | (refine kLdA 0 rfl rfl (by exact TT _ rfl) (Nat.le_of_ble_eq_true rfl) (by simp only [Nd.cells, Nd.zero, eP, eE, LS2]; rfl) ?_) | (refine nxL ?_))); fail_if_success (with_reducible refine gEx ?_)))
    | ((with_reducible refine gBx ?_); refine bxA H rfl rfl rfl ?_; clear H; intro b1 w1 H)
    | ((with_reducible refine gEq ?_); (first | (refine wl_cmp rfl rfl rfl rfl ?_) | (refine wl_scmp rfl rfl rfl rfl ?_)); intro rb hrb; cases rb <;> (first | (exfalso; simp at hrb; done) | ((try simp only [CS1, gt_iff_lt, ge_iff_le, ne_eq, Decidable.not_not] at hrb); (try subst hrb); (try (exfalso; omega))))))
  all_goals (have e9 := HR.out; (first | (have e8 : sEq tx ⟨#[]⟩ = true := (by unfold sEq; rw [beq_iff_eq]; assumption)) | (have e8 : sEq tx ⟨#[]⟩ = false := (by unfold sEq; rw [beq_eq_false_iff_ne]; assumption)) | skip); clear e9; (first | (have e9 : r = true := by (rw [← HR.out]; simp [plainN, own, kOk, named, two, kidsN, *]; done)) | (have e9 : r = false := by (rw [← HR.out]; simp [plainN, own, kOk, named, two, kidsN, *]; done))); subst e9; go_ret; exact ⟨rfl, H.drop⟩)
set_option maxHeartbeats 4000000 in
theorem rplain_4 {w0 w : World} {D : Nat → Prop} {R : List Ent} {r : Bool} {fr ds nu na nb : Int} {tx : ByteArray} (H : Hp w0 D (R) w) (hr : plainN ⟨4, fr, ds, nu, tx, na, nb⟩ = r) :
    Calls Try.prog 71 #[.agg (List.toArray [.int .i64 4, .int .i64 fr, .int .i64 ds, .int .u64 nu, .string tx, .int .i64 na, .int .i64 nb])] w fun e w' => e = .returned (.bool r) ∧ Hp w0 D (R) w' := by
  have HR := Lib.hid hr
  clear hr
  go_enter Try.func71, Try.ntmps71
  go_wp2_with (first
    | (go_at_call 72; ((refine (named_at (k := 4) (r := false) H (by decide)).mono ?_); rintro e w1 ⟨rfl, H1⟩; clear H; have H := H1; clear H1))
    | (go_at_call 74; ((refine (two_at (k := 4) (r := false) H (by decide)).mono ?_); rintro e w1 ⟨rfl, H1⟩; clear H; have H := H1; clear H1))
    | (go_at_call 49; ((refine (kidsN_at (k := 4) (r := 2) H (by decide)).mono ?_); rintro e w1 ⟨rfl, H1⟩; clear H; have H := H1; clear H1))
    | ((with_reducible refine gLd ?_); refine eLd H rfl rfl ?_; first | ((repeat ((with_reducible refine gEx ?_); first | (refine kLd 0 rfl rfl (by exact TT _ rfl) rfl ?_) | (refine kLdA 0 rfl rfl (by exact TT _ rfl) (Nat.le_of_ble_eq_true rfl) (by simp only [Nd.cells, Nd.zero, eP, eE, LS2]; rfl) ?_) | (refine nxL ?_))); fail_if_success (with_reducible refine gEx ?_)))
    | ((with_reducible refine gBx ?_); refine bxA H rfl rfl rfl ?_; clear H; intro b1 w1 H)
    | ((with_reducible refine gEq ?_); (first | (refine wl_cmp rfl rfl rfl rfl ?_) | (refine wl_scmp rfl rfl rfl rfl ?_)); intro rb hrb; cases rb <;> (first | (exfalso; simp at hrb; done) | ((try simp only [CS1, gt_iff_lt, ge_iff_le, ne_eq, Decidable.not_not] at hrb); (try subst hrb); (try (exfalso; omega))))))
  all_goals (have e9 := HR.out; (first | (have e8 : sEq tx ⟨#[]⟩ = true := (by unfold sEq; rw [beq_iff_eq]; assumption)) | (have e8 : sEq tx ⟨#[]⟩ = false := (by unfold sEq; rw [beq_eq_false_iff_ne]; assumption)) | skip); clear e9; (first | (have e9 : r = true := by (rw [← HR.out]; simp [plainN, own, kOk, named, two, kidsN, *]; done)) | (have e9 : r = false := by (rw [← HR.out]; simp [plainN, own, kOk, named, two, kidsN, *]; done))); subst e9; go_ret; exact ⟨rfl, H.drop⟩)
set_option maxHeartbeats 4000000 in
theorem rplain_5 {w0 w : World} {D : Nat → Prop} {R : List Ent} {r : Bool} {fr ds nu na nb : Int} {tx : ByteArray} (H : Hp w0 D (R) w) (hr : plainN ⟨5, fr, ds, nu, tx, na, nb⟩ = r) :
    Calls Try.prog 71 #[.agg (List.toArray [.int .i64 5, .int .i64 fr, .int .i64 ds, .int .u64 nu, .string tx, .int .i64 na, .int .i64 nb])] w fun e w' => e = .returned (.bool r) ∧ Hp w0 D (R) w' := by
  have HR := Lib.hid hr
  clear hr
  go_enter Try.func71, Try.ntmps71
  go_wp2_with (first
    | (go_at_call 72; ((refine (named_at (k := 5) (r := false) H (by decide)).mono ?_); rintro e w1 ⟨rfl, H1⟩; clear H; have H := H1; clear H1))
    | (go_at_call 74; ((refine (two_at (k := 5) (r := false) H (by decide)).mono ?_); rintro e w1 ⟨rfl, H1⟩; clear H; have H := H1; clear H1))
    | (go_at_call 49; ((refine (kidsN_at (k := 5) (r := 1) H (by decide)).mono ?_); rintro e w1 ⟨rfl, H1⟩; clear H; have H := H1; clear H1))
    | ((with_reducible refine gLd ?_); refine eLd H rfl rfl ?_; first | ((repeat ((with_reducible refine gEx ?_); first | (refine kLd 0 rfl rfl (by exact TT _ rfl) rfl ?_) | (refine kLdA 0 rfl rfl (by exact TT _ rfl) (Nat.le_of_ble_eq_true rfl) (by simp only [Nd.cells, Nd.zero, eP, eE, LS2]; rfl) ?_) | (refine nxL ?_))); fail_if_success (with_reducible refine gEx ?_)))
    | ((with_reducible refine gBx ?_); refine bxA H rfl rfl rfl ?_; clear H; intro b1 w1 H)
    | ((with_reducible refine gEq ?_); (first | (refine wl_cmp rfl rfl rfl rfl ?_) | (refine wl_scmp rfl rfl rfl rfl ?_)); intro rb hrb; cases rb <;> (first | (exfalso; simp at hrb; done) | ((try simp only [CS1, gt_iff_lt, ge_iff_le, ne_eq, Decidable.not_not] at hrb); (try subst hrb); (try (exfalso; omega))))))
  all_goals (have e9 := HR.out; (first | (have e8 : sEq tx ⟨#[]⟩ = true := (by unfold sEq; rw [beq_iff_eq]; assumption)) | (have e8 : sEq tx ⟨#[]⟩ = false := (by unfold sEq; rw [beq_eq_false_iff_ne]; assumption)) | skip); clear e9; (first | (have e9 : r = true := by (rw [← HR.out]; simp [plainN, own, kOk, named, two, kidsN, *]; done)) | (have e9 : r = false := by (rw [← HR.out]; simp [plainN, own, kOk, named, two, kidsN, *]; done))); subst e9; go_ret; exact ⟨rfl, H.drop⟩)
set_option maxHeartbeats 4000000 in
theorem rplain_6 {w0 w : World} {D : Nat → Prop} {R : List Ent} {r : Bool} {fr ds nu na nb : Int} {tx : ByteArray} (H : Hp w0 D (R) w) (hr : plainN ⟨6, fr, ds, nu, tx, na, nb⟩ = r) :
    Calls Try.prog 71 #[.agg (List.toArray [.int .i64 6, .int .i64 fr, .int .i64 ds, .int .u64 nu, .string tx, .int .i64 na, .int .i64 nb])] w fun e w' => e = .returned (.bool r) ∧ Hp w0 D (R) w' := by
  have HR := Lib.hid hr
  clear hr
  go_enter Try.func71, Try.ntmps71
  go_wp2_with (first
    | (go_at_call 72; ((refine (named_at (k := 6) (r := true) H (by decide)).mono ?_); rintro e w1 ⟨rfl, H1⟩; clear H; have H := H1; clear H1))
    | (go_at_call 74; ((refine (two_at (k := 6) (r := false) H (by decide)).mono ?_); rintro e w1 ⟨rfl, H1⟩; clear H; have H := H1; clear H1))
    | (go_at_call 49; ((refine (kidsN_at (k := 6) (r := 0) H (by decide)).mono ?_); rintro e w1 ⟨rfl, H1⟩; clear H; have H := H1; clear H1))
    | ((with_reducible refine gLd ?_); refine eLd H rfl rfl ?_; first | ((repeat ((with_reducible refine gEx ?_); first | (refine kLd 0 rfl rfl (by exact TT _ rfl) rfl ?_) | (refine kLdA 0 rfl rfl (by exact TT _ rfl) (Nat.le_of_ble_eq_true rfl) (by simp only [Nd.cells, Nd.zero, eP, eE, LS2]; rfl) ?_) | (refine nxL ?_))); fail_if_success (with_reducible refine gEx ?_)))
    | ((with_reducible refine gBx ?_); refine bxA H rfl rfl rfl ?_; clear H; intro b1 w1 H)
    | ((with_reducible refine gEq ?_); (first | (refine wl_cmp rfl rfl rfl rfl ?_) | (refine wl_scmp rfl rfl rfl rfl ?_)); intro rb hrb; cases rb <;> (first | (exfalso; simp at hrb; done) | ((try simp only [CS1, gt_iff_lt, ge_iff_le, ne_eq, Decidable.not_not] at hrb); (try subst hrb); (try (exfalso; omega))))))
  all_goals (have e9 := HR.out; (first | (have e8 : sEq tx ⟨#[]⟩ = true := (by unfold sEq; rw [beq_iff_eq]; assumption)) | (have e8 : sEq tx ⟨#[]⟩ = false := (by unfold sEq; rw [beq_eq_false_iff_ne]; assumption)) | skip); clear e9; (first | (have e9 : r = true := by (rw [← HR.out]; simp [plainN, own, kOk, named, two, kidsN, *]; done)) | (have e9 : r = false := by (rw [← HR.out]; simp [plainN, own, kOk, named, two, kidsN, *]; done))); subst e9; go_ret; exact ⟨rfl, H.drop⟩)
set_option maxHeartbeats 4000000 in
theorem rplain_7 {w0 w : World} {D : Nat → Prop} {R : List Ent} {r : Bool} {fr ds nu na nb : Int} {tx : ByteArray} (H : Hp w0 D (R) w) (hr : plainN ⟨7, fr, ds, nu, tx, na, nb⟩ = r) :
    Calls Try.prog 71 #[.agg (List.toArray [.int .i64 7, .int .i64 fr, .int .i64 ds, .int .u64 nu, .string tx, .int .i64 na, .int .i64 nb])] w fun e w' => e = .returned (.bool r) ∧ Hp w0 D (R) w' := by
  have HR := Lib.hid hr
  clear hr
  go_enter Try.func71, Try.ntmps71
  go_wp2_with (first
    | (go_at_call 72; ((refine (named_at (k := 7) (r := true) H (by decide)).mono ?_); rintro e w1 ⟨rfl, H1⟩; clear H; have H := H1; clear H1))
    | (go_at_call 74; ((refine (two_at (k := 7) (r := false) H (by decide)).mono ?_); rintro e w1 ⟨rfl, H1⟩; clear H; have H := H1; clear H1))
    | (go_at_call 49; ((refine (kidsN_at (k := 7) (r := 1) H (by decide)).mono ?_); rintro e w1 ⟨rfl, H1⟩; clear H; have H := H1; clear H1))
    | ((with_reducible refine gLd ?_); refine eLd H rfl rfl ?_; first | ((repeat ((with_reducible refine gEx ?_); first | (refine kLd 0 rfl rfl (by exact TT _ rfl) rfl ?_) | (refine kLdA 0 rfl rfl (by exact TT _ rfl) (Nat.le_of_ble_eq_true rfl) (by simp only [Nd.cells, Nd.zero, eP, eE, LS2]; rfl) ?_) | (refine nxL ?_))); fail_if_success (with_reducible refine gEx ?_)))
    | ((with_reducible refine gBx ?_); refine bxA H rfl rfl rfl ?_; clear H; intro b1 w1 H)
    | ((with_reducible refine gEq ?_); (first | (refine wl_cmp rfl rfl rfl rfl ?_) | (refine wl_scmp rfl rfl rfl rfl ?_)); intro rb hrb; cases rb <;> (first | (exfalso; simp at hrb; done) | ((try simp only [CS1, gt_iff_lt, ge_iff_le, ne_eq, Decidable.not_not] at hrb); (try subst hrb); (try (exfalso; omega))))))
  all_goals (have e9 := HR.out; (first | (have e8 : sEq tx ⟨#[]⟩ = true := (by unfold sEq; rw [beq_iff_eq]; assumption)) | (have e8 : sEq tx ⟨#[]⟩ = false := (by unfold sEq; rw [beq_eq_false_iff_ne]; assumption)) | skip); clear e9; (first | (have e9 : r = true := by (rw [← HR.out]; simp [plainN, own, kOk, named, two, kidsN, *]; done)) | (have e9 : r = false := by (rw [← HR.out]; simp [plainN, own, kOk, named, two, kidsN, *]; done))); subst e9; go_ret; exact ⟨rfl, H.drop⟩)
set_option maxHeartbeats 4000000 in
theorem rplain_8 {w0 w : World} {D : Nat → Prop} {R : List Ent} {r : Bool} {fr ds nu na nb : Int} {tx : ByteArray} (H : Hp w0 D (R) w) (hr : plainN ⟨8, fr, ds, nu, tx, na, nb⟩ = r) :
    Calls Try.prog 71 #[.agg (List.toArray [.int .i64 8, .int .i64 fr, .int .i64 ds, .int .u64 nu, .string tx, .int .i64 na, .int .i64 nb])] w fun e w' => e = .returned (.bool r) ∧ Hp w0 D (R) w' := by
  have HR := Lib.hid hr
  clear hr
  go_enter Try.func71, Try.ntmps71
  go_wp2_with (first
    | (go_at_call 72; ((refine (named_at (k := 8) (r := true) H (by decide)).mono ?_); rintro e w1 ⟨rfl, H1⟩; clear H; have H := H1; clear H1))
    | (go_at_call 74; ((refine (two_at (k := 8) (r := true) H (by decide)).mono ?_); rintro e w1 ⟨rfl, H1⟩; clear H; have H := H1; clear H1))
    | (go_at_call 49; ((refine (kidsN_at (k := 8) (r := 1) H (by decide)).mono ?_); rintro e w1 ⟨rfl, H1⟩; clear H; have H := H1; clear H1))
    | ((with_reducible refine gLd ?_); refine eLd H rfl rfl ?_; first | ((repeat ((with_reducible refine gEx ?_); first | (refine kLd 0 rfl rfl (by exact TT _ rfl) rfl ?_) | (refine kLdA 0 rfl rfl (by exact TT _ rfl) (Nat.le_of_ble_eq_true rfl) (by simp only [Nd.cells, Nd.zero, eP, eE, LS2]; rfl) ?_) | (refine nxL ?_))); fail_if_success (with_reducible refine gEx ?_)))
    | ((with_reducible refine gBx ?_); refine bxA H rfl rfl rfl ?_; clear H; intro b1 w1 H)
    | ((with_reducible refine gEq ?_); (first | (refine wl_cmp rfl rfl rfl rfl ?_) | (refine wl_scmp rfl rfl rfl rfl ?_)); intro rb hrb; cases rb <;> (first | (exfalso; simp at hrb; done) | ((try simp only [CS1, gt_iff_lt, ge_iff_le, ne_eq, Decidable.not_not] at hrb); (try subst hrb); (try (exfalso; omega))))))
  all_goals (have e9 := HR.out; (first | (have e8 : sEq tx ⟨#[]⟩ = true := (by unfold sEq; rw [beq_iff_eq]; assumption)) | (have e8 : sEq tx ⟨#[]⟩ = false := (by unfold sEq; rw [beq_eq_false_iff_ne]; assumption)) | skip); clear e9; (first | (have e9 : r = true := by (rw [← HR.out]; simp [plainN, own, kOk, named, two, kidsN, *]; done)) | (have e9 : r = false := by (rw [← HR.out]; simp [plainN, own, kOk, named, two, kidsN, *]; done))); subst e9; go_ret; exact ⟨rfl, H.drop⟩)
set_option maxHeartbeats 4000000 in
theorem rplain_9 {w0 w : World} {D : Nat → Prop} {R : List Ent} {r : Bool} {fr ds nu na nb : Int} {tx : ByteArray} (H : Hp w0 D (R) w) (hr : plainN ⟨9, fr, ds, nu, tx, na, nb⟩ = r) :
    Calls Try.prog 71 #[.agg (List.toArray [.int .i64 9, .int .i64 fr, .int .i64 ds, .int .u64 nu, .string tx, .int .i64 na, .int .i64 nb])] w fun e w' => e = .returned (.bool r) ∧ Hp w0 D (R) w' := by
  have HR := Lib.hid hr
  clear hr
  go_enter Try.func71, Try.ntmps71
  go_wp2_with (first
    | (go_at_call 72; ((refine (named_at (k := 9) (r := true) H (by decide)).mono ?_); rintro e w1 ⟨rfl, H1⟩; clear H; have H := H1; clear H1))
    | (go_at_call 74; ((refine (two_at (k := 9) (r := true) H (by decide)).mono ?_); rintro e w1 ⟨rfl, H1⟩; clear H; have H := H1; clear H1))
    | (go_at_call 49; ((refine (kidsN_at (k := 9) (r := 1) H (by decide)).mono ?_); rintro e w1 ⟨rfl, H1⟩; clear H; have H := H1; clear H1))
    | ((with_reducible refine gLd ?_); refine eLd H rfl rfl ?_; first | ((repeat ((with_reducible refine gEx ?_); first | (refine kLd 0 rfl rfl (by exact TT _ rfl) rfl ?_) | (refine kLdA 0 rfl rfl (by exact TT _ rfl) (Nat.le_of_ble_eq_true rfl) (by simp only [Nd.cells, Nd.zero, eP, eE, LS2]; rfl) ?_) | (refine nxL ?_))); fail_if_success (with_reducible refine gEx ?_)))
    | ((with_reducible refine gBx ?_); refine bxA H rfl rfl rfl ?_; clear H; intro b1 w1 H)
    | ((with_reducible refine gEq ?_); (first | (refine wl_cmp rfl rfl rfl rfl ?_) | (refine wl_scmp rfl rfl rfl rfl ?_)); intro rb hrb; cases rb <;> (first | (exfalso; simp at hrb; done) | ((try simp only [CS1, gt_iff_lt, ge_iff_le, ne_eq, Decidable.not_not] at hrb); (try subst hrb); (try (exfalso; omega))))))
  all_goals (have e9 := HR.out; (first | (have e8 : sEq tx ⟨#[]⟩ = true := (by unfold sEq; rw [beq_iff_eq]; assumption)) | (have e8 : sEq tx ⟨#[]⟩ = false := (by unfold sEq; rw [beq_eq_false_iff_ne]; assumption)) | skip); clear e9; (first | (have e9 : r = true := by (rw [← HR.out]; simp [plainN, own, kOk, named, two, kidsN, *]; done)) | (have e9 : r = false := by (rw [← HR.out]; simp [plainN, own, kOk, named, two, kidsN, *]; done))); subst e9; go_ret; exact ⟨rfl, H.drop⟩)
set_option maxHeartbeats 4000000 in
theorem rplain_lo {w0 w : World} {D : Nat → Prop} {R : List Ent} {k fr ds nu na nb : Int} {tx : ByteArray} (H : Hp w0 D (R) w) (hk : k < 1) :
    Calls Try.prog 71 #[.agg (List.toArray [.int .i64 k, .int .i64 fr, .int .i64 ds, .int .u64 nu, .string tx, .int .i64 na, .int .i64 nb])] w fun e w' => e = .returned (.bool false) ∧ Hp w0 D (R) w' := by
  go_enter Try.func71, Try.ntmps71
  go_wp2_with (first
    | ((with_reducible refine gLd ?_); refine eLd H rfl rfl ?_; first | ((repeat ((with_reducible refine gEx ?_); first | (refine kLd 0 rfl rfl (by exact TT _ rfl) rfl ?_) | (refine kLdA 0 rfl rfl (by exact TT _ rfl) (Nat.le_of_ble_eq_true rfl) (by simp only [Nd.cells, Nd.zero, eP, eE, LS2]; rfl) ?_) | (refine nxL ?_))); fail_if_success (with_reducible refine gEx ?_)))
    | ((with_reducible refine gBx ?_); refine bxA H rfl rfl rfl ?_; clear H; intro b1 w1 H)
    | ((with_reducible refine gEq ?_); (first | (refine wl_cmp rfl rfl rfl rfl ?_) | (refine wl_scmp rfl rfl rfl rfl ?_)); intro rb hrb; cases rb <;> (first | (exfalso; simp at hrb; done) | ((try simp only [CS1, gt_iff_lt, ge_iff_le, ne_eq, Decidable.not_not] at hrb); (try subst hrb); (try (exfalso; omega))))))
  all_goals go_ret
  all_goals exact ⟨rfl, H.drop⟩
set_option maxHeartbeats 4000000 in
theorem rplain_hi {w0 w : World} {D : Nat → Prop} {R : List Ent} {k fr ds nu na nb : Int} {tx : ByteArray} (H : Hp w0 D (R) w) (hk : 9 < k) :
    Calls Try.prog 71 #[.agg (List.toArray [.int .i64 k, .int .i64 fr, .int .i64 ds, .int .u64 nu, .string tx, .int .i64 na, .int .i64 nb])] w fun e w' => e = .returned (.bool false) ∧ Hp w0 D (R) w' := by
  go_enter Try.func71, Try.ntmps71
  go_wp2_with (first
    | ((with_reducible refine gLd ?_); refine eLd H rfl rfl ?_; first | ((repeat ((with_reducible refine gEx ?_); first | (refine kLd 0 rfl rfl (by exact TT _ rfl) rfl ?_) | (refine kLdA 0 rfl rfl (by exact TT _ rfl) (Nat.le_of_ble_eq_true rfl) (by simp only [Nd.cells, Nd.zero, eP, eE, LS2]; rfl) ?_) | (refine nxL ?_))); fail_if_success (with_reducible refine gEx ?_)))
    | ((with_reducible refine gBx ?_); refine bxA H rfl rfl rfl ?_; clear H; intro b1 w1 H)
    | ((with_reducible refine gEq ?_); (first | (refine wl_cmp rfl rfl rfl rfl ?_) | (refine wl_scmp rfl rfl rfl rfl ?_)); intro rb hrb; cases rb <;> (first | (exfalso; simp at hrb; done) | ((try simp only [CS1, gt_iff_lt, ge_iff_le, ne_eq, Decidable.not_not] at hrb); (try subst hrb); (try (exfalso; omega))))))
  all_goals go_ret
  all_goals exact ⟨rfl, H.drop⟩
theorem rplain_at {w0 w : World} {D : Nat → Prop} {R : List Ent} {n : Nd} {r : Bool} (H : Hp w0 D R w) (hr : plainN n = r) : Calls Try.prog 71 #[.agg n.cells.toArray] w fun e w' => e = .returned (.bool r) ∧ Hp w0 D R w' := by
  obtain ⟨k, fr, ds, nu, tx, na, nb⟩ := n
  by_cases h1 : k < 1
  · have : r = false := by rw [← hr]; simp [plainN, own, kOk_lo h1]
    subst this
    exact rplain_lo H h1
  by_cases h2 : 9 < k
  · have : r = false := by rw [← hr]; simp [plainN, own, kOk_hi h2]
    subst this
    exact rplain_hi H h2
  have : k = 1 ∨ k = 2 ∨ k = 3 ∨ k = 4 ∨ k = 5 ∨ k = 6 ∨ k = 7 ∨ k = 8 ∨ k = 9 := by omega
  rcases this with rfl | rfl | rfl | rfl | rfl | rfl | rfl | rfl | rfl
  · exact rplain_1 H hr
  · exact rplain_2 H hr
  · exact rplain_3 H hr
  · exact rplain_4 H hr
  · exact rplain_5 H hr
  · exact rplain_6 H hr
  · exact rplain_7 H hr
  · exact rplain_8 H hr
  · exact rplain_9 H hr
set_option maxHeartbeats 4000000 in
theorem rshape_no {w0 w : World} {D : Nat → Prop} {R : List Ent}  (H : Hp w0 D (R) w) (n : Nd) (hp : plainN n = false) :
    Calls Try.prog 48 #[.agg n.cells.toArray] w fun e w' => e = .returned (.int .i64 53) ∧ Hp w0 D (R) w' := by
  obtain ⟨k, fr, ds, nu, tx, na, nb⟩ := n
  have HPL := Lib.hid hp
  clear hp
  simp only [Nd.cells]
  go_enter Try.func48, Try.ntmps48
  go_wp2_with (first
    | (go_at_call 71; ((refine (rplain_at (n := ⟨k, fr, ds, nu, tx, na, nb⟩) H HPL.out).mono ?_); rintro e w1 ⟨rfl, H1⟩; clear H; have H := H1; clear H1))
    | ((with_reducible refine gLd ?_); refine eLd H rfl rfl ?_; first | ((repeat ((with_reducible refine gEx ?_); first | (refine kLd 0 rfl rfl (by exact TT _ rfl) rfl ?_) | (refine kLdA 0 rfl rfl (by exact TT _ rfl) (Nat.le_of_ble_eq_true rfl) (by simp only [Nd.cells, Nd.zero, eP, eE, LS2]; rfl) ?_) | (refine nxL ?_))); fail_if_success (with_reducible refine gEx ?_)))
    | ((with_reducible refine gBx ?_); refine bxA H rfl rfl rfl ?_; clear H; intro b1 w1 H))
  all_goals go_ret
  all_goals exact ⟨rfl, H.drop⟩
set_option maxHeartbeats 16000000 in
theorem rshape_yes {w0 w : World} {D : Nat → Prop} {R : List Ent} {er : Int} (H : Hp w0 D (R) w) (n : Nd) (hp : plainN n = true) (he : fieldsE n = er) :
    Calls Try.prog 48 #[.agg n.cells.toArray] w fun e w' => e = .returned (.int .i64 er) ∧ Hp w0 D (R) w' := by
  obtain ⟨k, fr, ds, nu, tx, na, nb⟩ := n
  obtain ⟨f, hf⟩ : ∃ f, named k = f := ⟨_, rfl⟩
  obtain ⟨t, ht⟩ : ∃ f, two k = f := ⟨_, rfl⟩
  obtain ⟨p, hp1⟩ : ∃ r, nm fr = r := ⟨_, rfl⟩
  obtain ⟨q, hq1⟩ : ∃ r, nm ds = r := ⟨_, rfl⟩
  simp only [fieldsE, namesE, hf, ht, hp1, hq1] at he
  have HPL := Lib.hid hp
  have HF := Lib.hid hf
  have HT := Lib.hid ht
  have HP := Lib.hid hp1
  have HQ := Lib.hid hq1
  have HER := Lib.hid he
  clear hp hf ht hp1 hq1 he
  simp only [Nd.cells]
  cases f <;> cases t <;> cases p <;> cases q
  all_goals go_enter Try.func48, Try.ntmps48
  all_goals go_wp2_with (first
    | (go_at_call 71; ((refine (rplain_at (n := ⟨k, fr, ds, nu, tx, na, nb⟩) H HPL.out).mono ?_); rintro e w1 ⟨rfl, H1⟩; clear H; have H := H1; clear H1))
    | (go_at_call 72; ((refine (named_at H HF.out).mono ?_); rintro e w1 ⟨rfl, H1⟩; clear H; have H := H1; clear H1))
    | (go_at_call 74; ((refine (two_at H HT.out).mono ?_); rintro e w1 ⟨rfl, H1⟩; clear H; have H := H1; clear H1))
    | (go_at_call 73; first | ((with_reducible refine (name_at H HP.out).mono ?_); rintro e w1 ⟨rfl, H1⟩; clear H; have H := H1; clear H1) | ((with_reducible refine (name_at H HQ.out).mono ?_); rintro e w1 ⟨rfl, H1⟩; clear H; have H := H1; clear H1))
    | ((with_reducible refine gLd ?_); refine eLd H rfl rfl ?_; first | ((repeat ((with_reducible refine gEx ?_); first | (refine kLd 0 rfl rfl (by exact TT _ rfl) rfl ?_) | (refine kLdA 0 rfl rfl (by exact TT _ rfl) (Nat.le_of_ble_eq_true rfl) (by simp only [Nd.cells, Nd.zero, eP, eE, LS2]; rfl) ?_) | (refine nxL ?_))); fail_if_success (with_reducible refine gEx ?_)))
    | ((with_reducible refine gBx ?_); refine bxA H rfl rfl rfl ?_; clear H; intro b1 w1 H)
    | ((with_reducible refine gEq ?_); (first | (refine wl_cmp rfl rfl rfl rfl ?_) | (refine wl_scmp rfl rfl rfl rfl ?_)); intro rb hrb; cases rb <;> (first | (exfalso; simp at hrb; done) | ((try simp only [CS1, gt_iff_lt, ge_iff_le, ne_eq, Decidable.not_not] at hrb); (try subst hrb); (try (exfalso; omega))))))
  all_goals (have e9 := HER.out; simp [*] at e9; (try rw [if_pos (by omega)] at e9); (try rw [if_neg (by omega)] at e9); subst e9; go_ret; exact ⟨rfl, H.drop⟩)
theorem rshape_at {w0 w : World} {D : Nat → Prop} {R : List Ent} {n : Nd} {er : Int} (H : Hp w0 D R w) (hr : shapeE n = er) : Calls Try.prog 48 #[.agg n.cells.toArray] w fun e w' => e = .returned (.int .i64 er) ∧ Hp w0 D R w' := by
  unfold shapeE at hr
  cases hp : plainN n with
  | false => rw [hp] at hr; simp at hr; subst hr; exact rshape_no H n hp
  | true => rw [hp, if_pos rfl] at hr; exact rshape_yes H n hp hr
end Go.Proofs.Ytebecelhcpljaaa
