/- What a verdict says. -/
import Derived.Test.YtjmkoojojbfgpaaW1
import Derived.WalkKit
import Derived.Lib.Hide
import Derived.Deep.LoopGhost
import Derived.WalkSpells
set_option linter.unusedVariables false
set_option linter.unusedSimpArgs false
namespace Go.Proofs.Ytjmkoojojbfgpaa
open Go.RowKit Go.Gx Go.Gx.Ver
set_option maxRecDepth 100000
theorem sz64 (n : Nat) : ((n : Int) ≤ 64) ↔ n ≤ 64 := by omega
theorem sz64' (n : Nat) : (64 < (n : Int)) ↔ ¬ n ≤ 64 := by omega
theorem sEq_false {s t : ByteArray} : (sEq s t = false) ↔ ¬ s = t := by rw [Bool.eq_false_iff, ne_eq, sEq_iff]
theorem sEq_self (s : ByteArray) : sEq s s = true := sEq_iff.2 rfl
theorem ret_ab {x y : Value} {a b : Bool} (h1 : x = y) (h2 : a = b) : Ending.returned (.tuple #[x, .bool a]) = .returned (.tuple #[y, .bool b]) := by rw [h1, h2]
set_option maxHeartbeats 4000000 in
theorem Says_spec {w0 w : World} {D : Nat → Prop} {R : List Ent}  (H : Hp w0 D (R) w) (v : Vt) :
    Calls Try.prog 20 #[.agg v.cells.toArray] w fun e w' => e = .returned (.tuple #[.agg (says v).cells.toArray, .bool (right v)]) ∧ Hp w0 D (R) w' := by
  obtain ⟨c, k, x⟩ := v
  try simp only [Lt.cells, Vt.cells, Lt.zero, Vt.zero, kRow, eT, eL, bmt] at H
  try simp only [Lt.cells, Vt.cells, Lt.zero, Vt.zero, kRow, eT, eL, bmt]
  go_enter Try.func20, Try.ntmps20
  go_wp2_with (first
    | ((with_reducible refine gLd ?_); refine eLd H rfl rfl ?_; first | (refine kLdB 0 rfl rfl (by first | exact T3 | exact T4 | exact T9 | exact T23 | exact T22 | exact T26 | exact T27 | exact T44 | exact T49 | exact T66 | exact T32 | exact T37 | exact T76 | exact T77) rfl ?_; intro rb hrb; cases rb <;> (first | (exfalso; simp at hrb; done) | ((try simp only [decide_eq_true_eq, decide_eq_false_iff_not, beq_iff_eq, beq_eq_false_iff_ne, ne_eq, bne_iff_ne, bne_eq_false_iff_eq, Bool.not_eq_true', Bool.not_eq_false', gt_iff_lt, ge_iff_le, Int.not_lt, Int.not_le, Decidable.not_not] at hrb); (try subst hrb); (try (exfalso; omega))))) | (refine kLdB 1 rfl rfl (by first | exact T3 | exact T4 | exact T9 | exact T23 | exact T22 | exact T26 | exact T27 | exact T44 | exact T49 | exact T66 | exact T32 | exact T37 | exact T76 | exact T77) rfl ?_; intro rb hrb; cases rb <;> (first | (exfalso; simp at hrb; done) | ((try simp only [decide_eq_true_eq, decide_eq_false_iff_not, beq_iff_eq, beq_eq_false_iff_ne, ne_eq, bne_iff_ne, bne_eq_false_iff_eq, Bool.not_eq_true', Bool.not_eq_false', gt_iff_lt, ge_iff_le, Int.not_lt, Int.not_le, Decidable.not_not] at hrb); (try subst hrb); (try (exfalso; omega))))) | (refine kLd 0 rfl rfl (by first | exact T3 | exact T4 | exact T9 | exact T23 | exact T22 | exact T26 | exact T27 | exact T44 | exact T49 | exact T66 | exact T32 | exact T37 | exact T76 | exact T77) rfl ?_) | (refine kLd 1 rfl rfl (by first | exact T3 | exact T4 | exact T9 | exact T23 | exact T22 | exact T26 | exact T27 | exact T44 | exact T49 | exact T66 | exact T32 | exact T37 | exact T76 | exact T77) rfl ?_) | (refine kLdA 0 rfl rfl (by first | exact T3 | exact T4 | exact T9 | exact T23 | exact T22 | exact T26 | exact T27 | exact T44 | exact T49 | exact T66 | exact T32 | exact T37 | exact T76 | exact T77) (Nat.le_of_ble_eq_true rfl) (by simp only [Lt.cells, Vt.cells, Lt.zero, Vt.zero, kRow, eT, eL, bmt, List.drop_succ_cons, List.drop_zero, List.take_succ_cons, List.take_zero, List.set_cons_zero, List.set_cons_succ]; rfl) ?_) | (refine kLdA 1 rfl rfl (by first | exact T3 | exact T4 | exact T9 | exact T23 | exact T22 | exact T26 | exact T27 | exact T44 | exact T49 | exact T66 | exact T32 | exact T37 | exact T76 | exact T77) (Nat.le_of_ble_eq_true rfl) (by simp only [Lt.cells, Vt.cells, Lt.zero, Vt.zero, kRow, eT, eL, bmt, List.drop_succ_cons, List.drop_zero, List.take_succ_cons, List.take_zero, List.set_cons_zero, List.set_cons_succ]; rfl) ?_))
    | ((with_reducible refine gSt ?_); (first | (refine eSt H rfl rfl ⟨.int _ _, rfl, ?_⟩) | (refine eSt H rfl rfl ⟨.bool _, rfl, ?_⟩) | (refine eSt H rfl rfl ⟨.slice _ _ _, rfl, ?_⟩) | (refine eSt H rfl rfl ⟨.pointer _, rfl, ?_⟩) | (refine eSt H rfl rfl ⟨.string _, rfl, ?_⟩) | (refine eSt H rfl rfl ⟨.agg (List.toArray _), rfl, ?_⟩)); (first | (refine kSt 0 rfl rfl (by first | exact T3 | exact T4 | exact T9 | exact T23 | exact T22 | exact T26 | exact T27 | exact T44 | exact T49 | exact T66 | exact T32 | exact T37 | exact T76 | exact T77) rfl (Nat.le_of_ble_eq_true rfl) ?_) | (refine kSt 1 rfl rfl (by first | exact T3 | exact T4 | exact T9 | exact T23 | exact T22 | exact T26 | exact T27 | exact T44 | exact T49 | exact T66 | exact T32 | exact T37 | exact T76 | exact T77) rfl (Nat.le_of_ble_eq_true rfl) ?_) | (refine kStA 0 rfl rfl (by first | exact T3 | exact T4 | exact T9 | exact T23 | exact T22 | exact T26 | exact T27 | exact T44 | exact T49 | exact T66 | exact T32 | exact T37 | exact T76 | exact T77) rfl rfl (Nat.le_of_ble_eq_true rfl) ?_) | (refine kStA 1 rfl rfl (by first | exact T3 | exact T4 | exact T9 | exact T23 | exact T22 | exact T26 | exact T27 | exact T44 | exact T49 | exact T66 | exact T32 | exact T37 | exact T76 | exact T77) rfl rfl (Nat.le_of_ble_eq_true rfl) ?_)); clear H; intro w1 H; simp only [List.set_cons_zero, List.set_cons_succ] at H; (try simp only [lay, List.take_zero, List.nil_append, List.length_cons, List.length_nil, Nat.zero_add, Nat.reduceAdd, List.drop_succ_cons, List.drop_zero, List.drop_nil, List.append_nil, List.take_succ_cons, List.cons_append] at H))
    | ((with_reducible refine gBx ?_); refine bxA H rfl rfl rfl ?_; clear H; intro b1 w1 H)
    | ((with_reducible refine gBs ?_); (first | (refine bs1 H rfl (by first | exact S22 | exact S44) rfl (Nat.le_of_ble_eq_true rfl) (Nat.le_of_ble_eq_true rfl) rfl ?_) | (refine wl_buildSlice0 rfl (by first | exact S22 | exact S44) H ?_)); clear H; intro b1 w1 H)
    | ((with_reducible refine gEq ?_); (first | (refine wl_cmp rfl rfl rfl rfl ?_) | (refine wl_scmp rfl rfl rfl rfl ?_)); intro rb hrb; cases rb <;> (first | (exfalso; simp at hrb; done) | ((try simp only [decide_eq_true_eq, decide_eq_false_iff_not, beq_iff_eq, beq_eq_false_iff_ne, ne_eq, bne_iff_ne, bne_eq_false_iff_eq, Bool.not_eq_true', Bool.not_eq_false', gt_iff_lt, ge_iff_le, Int.not_lt, Int.not_le, Decidable.not_not] at hrb); (try subst hrb); (try (exfalso; omega)))))
    | ((with_reducible refine gEq ?_); (first | (refine wl_eqAgg G32 (eq32 9998 ⟨_, _, _, _, _⟩ ⟨_, _, _, _, _⟩) rfl rfl rfl ?_) | (refine wl_neAgg G32 (eq32 9998 ⟨_, _, _, _, _⟩ ⟨_, _, _, _, _⟩) rfl rfl rfl ?_)); intro rb hrb; cases rb <;> (try simp only [Bool.not_true, Bool.not_false]))
    | ((with_reducible refine gEq ?_); (first | (refine wl_eqAgg G37 (eq37 9998 ⟨_, _, _⟩ ⟨_, _, _⟩) rfl rfl rfl ?_) | (refine wl_neAgg G37 (eq37 9998 ⟨_, _, _⟩ ⟨_, _, _⟩) rfl rfl rfl ?_)); intro rb hrb; cases rb <;> (try simp only [Bool.not_true, Bool.not_false]))
    | ((with_reducible refine gAl ?_); (first | (refine al H Z32 rfl rfl ?_) | (refine al H Z37 rfl rfl ?_) | (refine al H Z76 rfl rfl ?_) | (refine al H Z77 rfl rfl ?_)); clear H; intro b1 w1 H)
    | ((with_reducible refine gRg ?_); refine wp_region_text rfl (by decide +kernel) ?_; replace H := H.drew)
    | (refine EndQ.intro (by kernel_rfl) ?_))
  all_goals refine ret_ct (vs := [_, _, _, _, _]) 0 H rfl rfl rfl rfl rfl rfl T32 (Nat.le_of_ble_eq_true rfl) rfl ⟨?_, H.drop.drop⟩
  all_goals clear H
  all_goals go_tidy
  all_goals (try simp only [sz64, sz64'] at *)
  all_goals (try simp only [txt_iff] at *)
  all_goals (try subst x)
  all_goals (try subst k)
  all_goals (simp_all [says, right, sEq_false, sEq_self, bmt, Lt.cells, Lt.zero]; done)
end Go.Proofs.Ytjmkoojojbfgpaa
