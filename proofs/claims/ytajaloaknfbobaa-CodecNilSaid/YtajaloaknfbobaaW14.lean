/- What functions of layer 1 compute. -/
import Derived.Test.YtajaloaknfbobaaW13
import Derived.OwnWalk
import Derived.WalkKit
import Derived.WalkLawsBesides
import Derived.Lib.Hide
import Derived.Deep.LoopGhost
import Derived.WalkSpells
set_option linter.unusedVariables false
set_option linter.unusedSimpArgs false
namespace Go.Proofs.Ytajaloaknfbobaa
open Go.RowKit Go.Gx Go.Gx.Cod
set_option maxRecDepth 100000
set_option maxHeartbeats 4000000 in
theorem Nil_spec {w0 w : World} {D : Nat → Prop} {R : List Ent}  (H : Hp w0 D (R) w) (most : Int) :
    Calls Try.prog 6 #[.int .i64 most] w fun e w' => e = .returned (.bool true) ∧ ∃ L, Hp w0 D L w' := by
  try simp only [eR, eB] at H
  try simp only [eR, eB]
  go_enter Try.func6, Try.ntmps6
  go_wp2_with (first
    | (go_at_call 24; (with_reducible refine (Why_nil H).mono ?_); rintro e w1 ⟨rfl, H1⟩; clear H; have H := H1; clear H1)
    | (go_at_call 20; (with_reducible refine (Num_nil H).mono ?_); rintro e w1 ⟨rfl, H1⟩; clear H; have H := H1; clear H1)
    | (go_at_call 21; (with_reducible refine (Int_nil H).mono ?_); rintro e w1 ⟨rfl, H1⟩; clear H; have H := H1; clear H1)
    | (go_at_call 22; (with_reducible refine (Text_nil H _).mono ?_); rintro e w1 ⟨rfl, H1⟩; clear H; have H := H1; clear H1)
    | (go_at_call 26; (with_reducible refine (Byte_nil H).mono ?_); rintro e w1 ⟨rfl, H1⟩; clear H; have H := H1; clear H1)
    | (go_at_call 25; (with_reducible refine (At_nil H).mono ?_); rintro e w1 ⟨rfl, H1⟩; clear H; have H := H1; clear H1)
    | (go_at_call 27; (with_reducible refine (Left_nil H).mono ?_); rintro e w1 ⟨rfl, H1⟩; clear H; have H := H1; clear H1)
    | (go_at_call 23; (with_reducible refine (Done_nil H).mono ?_); rintro e w1 ⟨rfl, H1⟩; clear H; have H := H1; clear H1)
    | (go_at_call 10; (with_reducible refine (num_spec H _ (by decide) (by decide)).mono ?_); rintro e w1 ⟨rfl, H1⟩; clear H; have H := H1; clear H1)
    | (go_at_call 11; (with_reducible refine (live_spec H).mono ?_); rintro e w1 ⟨rfl, H1⟩; clear H; have H := H1; clear H1)
    | ((with_reducible refine gLd ?_); refine eLd H rfl rfl ?_; first | (refine kLdB 0 rfl rfl (by first | exact T3 | exact T5 | exact T22 | exact T23 | exact T24 | exact T33 | exact T38 | exact T9 | exact T2 | exact T4 | exact T54 | exact T69 | exact T66 | exact T72) rfl ?_; intro rb hrb; cases rb <;> (first | (exfalso; simp at hrb; done) | ((try simp only [decide_eq_true_eq, decide_eq_false_iff_not, beq_iff_eq, beq_eq_false_iff_ne, ne_eq, bne_iff_ne, bne_eq_false_iff_eq, Bool.not_eq_true', Bool.not_eq_false', gt_iff_lt, ge_iff_le, Int.not_lt, Int.not_le, Decidable.not_not] at hrb); (try subst hrb); (try (exfalso; omega))))) | (refine kLdB 1 rfl rfl (by first | exact T3 | exact T5 | exact T22 | exact T23 | exact T24 | exact T33 | exact T38 | exact T9 | exact T2 | exact T4 | exact T54 | exact T69 | exact T66 | exact T72) rfl ?_; intro rb hrb; cases rb <;> (first | (exfalso; simp at hrb; done) | ((try simp only [decide_eq_true_eq, decide_eq_false_iff_not, beq_iff_eq, beq_eq_false_iff_ne, ne_eq, bne_iff_ne, bne_eq_false_iff_eq, Bool.not_eq_true', Bool.not_eq_false', gt_iff_lt, ge_iff_le, Int.not_lt, Int.not_le, Decidable.not_not] at hrb); (try subst hrb); (try (exfalso; omega))))) | (refine kLd 0 rfl rfl (by first | exact T3 | exact T5 | exact T22 | exact T23 | exact T24 | exact T33 | exact T38 | exact T9 | exact T2 | exact T4 | exact T54 | exact T69 | exact T66 | exact T72) rfl ?_) | (refine kLd 1 rfl rfl (by first | exact T3 | exact T5 | exact T22 | exact T23 | exact T24 | exact T33 | exact T38 | exact T9 | exact T2 | exact T4 | exact T54 | exact T69 | exact T66 | exact T72) rfl ?_) | (refine kLdA 0 rfl rfl (by first | exact T3 | exact T5 | exact T22 | exact T23 | exact T24 | exact T33 | exact T38 | exact T9 | exact T2 | exact T4 | exact T54 | exact T69 | exact T66 | exact T72) (Nat.le_of_ble_eq_true rfl) (by simp only [eR, eB, List.drop_succ_cons, List.drop_zero, List.take_succ_cons, List.take_zero, List.set_cons_zero, List.set_cons_succ]; rfl) ?_) | (refine kLdA 1 rfl rfl (by first | exact T3 | exact T5 | exact T22 | exact T23 | exact T24 | exact T33 | exact T38 | exact T9 | exact T2 | exact T4 | exact T54 | exact T69 | exact T66 | exact T72) (Nat.le_of_ble_eq_true rfl) (by simp only [eR, eB, List.drop_succ_cons, List.drop_zero, List.take_succ_cons, List.take_zero, List.set_cons_zero, List.set_cons_succ]; rfl) ?_))
    | ((with_reducible refine gSt ?_); (first | (refine eSt H rfl rfl ⟨.int _ _, rfl, ?_⟩) | (refine eSt H rfl rfl ⟨.bool _, rfl, ?_⟩) | (refine eSt H rfl rfl ⟨.slice _ _ _, rfl, ?_⟩) | (refine eSt H rfl rfl ⟨.pointer _, rfl, ?_⟩) | (refine eSt H rfl rfl ⟨.string _, rfl, ?_⟩) | (refine eSt H rfl rfl ⟨.agg (List.toArray _), rfl, ?_⟩)); (first | (refine kSt 0 rfl rfl (by first | exact T3 | exact T5 | exact T22 | exact T23 | exact T24 | exact T33 | exact T38 | exact T9 | exact T2 | exact T4 | exact T54 | exact T69 | exact T66 | exact T72) rfl (Nat.le_of_ble_eq_true rfl) ?_) | (refine kSt 1 rfl rfl (by first | exact T3 | exact T5 | exact T22 | exact T23 | exact T24 | exact T33 | exact T38 | exact T9 | exact T2 | exact T4 | exact T54 | exact T69 | exact T66 | exact T72) rfl (Nat.le_of_ble_eq_true rfl) ?_) | (refine kStA 0 rfl rfl (by first | exact T3 | exact T5 | exact T22 | exact T23 | exact T24 | exact T33 | exact T38 | exact T9 | exact T2 | exact T4 | exact T54 | exact T69 | exact T66 | exact T72) rfl rfl (Nat.le_of_ble_eq_true rfl) ?_) | (refine kStA 1 rfl rfl (by first | exact T3 | exact T5 | exact T22 | exact T23 | exact T24 | exact T33 | exact T38 | exact T9 | exact T2 | exact T4 | exact T54 | exact T69 | exact T66 | exact T72) rfl rfl (Nat.le_of_ble_eq_true rfl) ?_)); clear H; intro w1 H; simp only [List.set_cons_zero, List.set_cons_succ] at H; (try simp only [lay, List.take_zero, List.nil_append, List.length_cons, List.length_nil, Nat.zero_add, Nat.reduceAdd, List.drop_succ_cons, List.drop_zero, List.drop_nil, List.append_nil, List.take_succ_cons, List.cons_append] at H))
    | ((with_reducible refine gBx ?_); refine bxA H rfl rfl rfl ?_; clear H; intro b1 w1 H)
    | ((with_reducible refine gBs ?_); (first | (refine bs1 H rfl (by first | exact S22 | exact S54 | exact S61) rfl (Nat.le_of_ble_eq_true rfl) (Nat.le_of_ble_eq_true rfl) rfl ?_) | (refine wl_buildSlice0 rfl (by first | exact S22 | exact S54 | exact S61) H ?_)); clear H; intro b1 w1 H)
    | ((with_reducible refine gEq ?_); (first | (refine wl_cmp rfl rfl rfl rfl ?_) | (refine wl_scmp rfl rfl rfl rfl ?_)); intro rb hrb; cases rb <;> (first | (exfalso; simp at hrb; done) | ((try simp only [decide_eq_true_eq, decide_eq_false_iff_not, beq_iff_eq, beq_eq_false_iff_ne, ne_eq, bne_iff_ne, bne_eq_false_iff_eq, Bool.not_eq_true', Bool.not_eq_false', gt_iff_lt, ge_iff_le, Int.not_lt, Int.not_le, Decidable.not_not] at hrb); (try subst hrb); (try (exfalso; omega)))))
    | ((with_reducible refine gRg ?_); refine wp_region_text rfl (by decide +kernel) ?_; replace H := H.drew)
    | ((with_reducible refine EndQ.intro ?_ ?_); (· kernel_rfl)))
  all_goals (go_ret; exact ⟨rfl, _, H⟩)
end Go.Proofs.Ytajaloaknfbobaa
