import Derived.Test.YtajconlnacbmjaaW1
import Derived.Test.YtajconlnacbmjaaLaw
import Derived.Deep.LoopGhost
import Derived.WalkKit
import Derived.Lib.Hide
import Derived.WalkSpells
set_option linter.unusedVariables false
set_option linter.unusedSimpArgs false
namespace Go.Proofs.Ytajconlnacbmjaa
open Go.RowKit Go.Gx Go.Gx.Net
set_option maxRecDepth 100000
set_option maxHeartbeats 4000000 in
theorem huge_spec {w0 w : World} {D : Nat → Prop} {R : List Ent}  (H : Hp w0 D (R) w) {x : Option Addr} {cap : Nat} (l : List Ac) (hrow : AcRow w0 D x l) (hlen : l.length ≤ 140737488355328) :
    Calls Try.prog 8 #[.slice x l.length cap] w fun e w' => HugeP w0 D R l.length e w' := by
  have HR := Lib.hid hrow
  clear hrow
  try simp only [Pk.cells, netC, Pk.zero]
  go_enter Try.func8, Try.ntmps8
  go_wp2_with (first
    | ((with_reducible refine gLd ?_); refine eLd H rfl rfl ?_; first | (refine kLdB 0 rfl rfl (by first | exact T3 | exact T4 | exact T9 | exact T30 | exact T27 | exact T51 | exact T35 | exact T29 | exact T63 | exact T49) rfl ?_; intro rb hrb; cases rb <;> (first | (exfalso; simp at hrb; done) | ((try simp only [decide_eq_true_eq, decide_eq_false_iff_not, beq_iff_eq, beq_eq_false_iff_ne, ne_eq, bne_iff_ne, bne_eq_false_iff_eq, Bool.not_eq_true', Bool.not_eq_false', gt_iff_lt, ge_iff_le, Int.not_lt, Int.not_le, Decidable.not_not] at hrb); (try subst hrb); (try (exfalso; omega))))) | (refine kLd 0 rfl rfl (by first | exact T3 | exact T4 | exact T9 | exact T30 | exact T27 | exact T51 | exact T35 | exact T29 | exact T63 | exact T49) rfl ?_) | (refine kLdA 0 rfl rfl (by first | exact T3 | exact T4 | exact T9 | exact T30 | exact T27 | exact T51 | exact T35 | exact T29 | exact T63 | exact T49) (Nat.le_of_ble_eq_true rfl) (by simp only [Pk.cells, netC, Pk.zero, List.drop_succ_cons, List.drop_zero, List.take_succ_cons, List.take_zero, List.set_cons_zero, List.set_cons_succ]; rfl) ?_))
    | ((with_reducible refine gSt ?_); (first | (refine eSt H rfl rfl ⟨.int _ _, rfl, ?_⟩) | (refine eSt H rfl rfl ⟨.bool _, rfl, ?_⟩) | (refine eSt H rfl rfl ⟨.slice _ _ _, rfl, ?_⟩) | (refine eSt H rfl rfl ⟨.pointer _, rfl, ?_⟩) | (refine eSt H rfl rfl ⟨.string _, rfl, ?_⟩) | (refine eSt H rfl rfl ⟨.agg (List.toArray _), rfl, ?_⟩)); (first | (refine kSt 0 rfl rfl (by first | exact T3 | exact T4 | exact T9 | exact T30 | exact T27 | exact T51 | exact T35 | exact T29 | exact T63 | exact T49) rfl (Nat.le_of_ble_eq_true rfl) ?_) | (refine kStA 0 rfl rfl (by first | exact T3 | exact T4 | exact T9 | exact T30 | exact T27 | exact T51 | exact T35 | exact T29 | exact T63 | exact T49) rfl rfl (Nat.le_of_ble_eq_true rfl) ?_)); clear H; intro w1 H; simp only [List.set_cons_zero, List.set_cons_succ] at H; (try simp only [lay, List.take_zero, List.nil_append, List.length_cons, List.length_nil, Nat.zero_add, Nat.reduceAdd, List.drop_succ_cons, List.drop_zero, List.drop_nil, List.append_nil, List.take_succ_cons, List.cons_append] at H))
    | ((with_reducible refine gBx ?_); refine bxA H rfl rfl rfl ?_; clear H; intro b1 w1 H)
    | ((with_reducible refine gBs ?_); (first | (refine bs1 H rfl (by first | exact S27 | exact S51) rfl (Nat.le_of_ble_eq_true rfl) (Nat.le_of_ble_eq_true rfl) rfl ?_) | (refine wl_buildSlice0 rfl (by first | exact S27 | exact S51) H ?_)); clear H; intro b1 w1 H)
    | ((with_reducible refine gEq ?_); (first | (refine wl_cmp rfl rfl rfl rfl ?_) | (refine wl_scmp rfl rfl rfl rfl ?_)); intro rb hrb; cases rb <;> (first | (exfalso; simp at hrb; done) | ((try simp only [decide_eq_true_eq, decide_eq_false_iff_not, beq_iff_eq, beq_eq_false_iff_ne, ne_eq, bne_iff_ne, bne_eq_false_iff_eq, Bool.not_eq_true', Bool.not_eq_false', gt_iff_lt, ge_iff_le, Int.not_lt, Int.not_le, Decidable.not_not] at hrb); (try subst hrb); (try (exfalso; omega)))))
    | ((with_reducible refine gEq ?_); (first | (refine wl_eqAgg G35 (eq35 9998 ⟨_, _, _, _, _⟩ ⟨_, _, _, _, _⟩) rfl rfl rfl ?_) | (refine wl_neAgg G35 (eq35 9998 ⟨_, _, _, _, _⟩ ⟨_, _, _, _, _⟩) rfl rfl rfl ?_)); intro rb hrb; cases rb <;> (try simp only [Bool.not_true, Bool.not_false]))
    | ((with_reducible refine gAl ?_); (first | (refine al H Z35 rfl rfl ?_) | (refine al H Z29 rfl rfl ?_)); clear H; intro b1 w1 H)
    | ((with_reducible refine gRg ?_); refine wp_region_text rfl (by decide +kernel) ?_; replace H := H.drew)
    | ((with_reducible refine EndQ.intro ?_ ?_); (· kernel_rfl)))
  go_loopg [3, 4] 202 (fun n v3 v4 wr => ∃ (k : Nat) (z : Int), k + n = 202 ∧ k ≤ 201 ∧ k ≤ l.length ∧ v3 = .int .i64 z ∧ v4 = .int .i64 k ∧ Hp w0 D R wr)
  case atStart => exact ⟨0, 0, rfl, by omega, Nat.zero_le _, rfl, rfl, H⟩
  case round =>
    clear H
    obtain ⟨k, z, hkn, hk1, hk2, rfl, rfl, H⟩ := hrel
    by_cases hk : k < l.length
    · obtain ⟨b, off, rfl, hO⟩ := HR.out k _ (List.getElem?_eq_getElem hk)
      generalize l[k] = c at *
      obtain ⟨c1, c2, c3, c4, c5⟩ := c
      have hg : 0 < gk := by omega
      have HK := Lib.hid hkn
      clear hkn
      go_wp2_with (first
    | ((with_reducible refine gLd ?_); first | (refine wl_loadO 3 H hO rfl rfl rfl T9 rfl ?_))
    | ((with_reducible refine gLd ?_); refine eLd H rfl rfl ?_; first | (refine kLdB 0 rfl rfl (by first | exact T3 | exact T4 | exact T9 | exact T30 | exact T27 | exact T51 | exact T35 | exact T29 | exact T63 | exact T49) rfl ?_; intro rb hrb; cases rb <;> (first | (exfalso; simp at hrb; done) | ((try simp only [decide_eq_true_eq, decide_eq_false_iff_not, beq_iff_eq, beq_eq_false_iff_ne, ne_eq, bne_iff_ne, bne_eq_false_iff_eq, Bool.not_eq_true', Bool.not_eq_false', gt_iff_lt, ge_iff_le, Int.not_lt, Int.not_le, Decidable.not_not] at hrb); (try subst hrb); (try (exfalso; omega))))) | (refine kLd 0 rfl rfl (by first | exact T3 | exact T4 | exact T9 | exact T30 | exact T27 | exact T51 | exact T35 | exact T29 | exact T63 | exact T49) rfl ?_) | (refine kLdA 0 rfl rfl (by first | exact T3 | exact T4 | exact T9 | exact T30 | exact T27 | exact T51 | exact T35 | exact T29 | exact T63 | exact T49) (Nat.le_of_ble_eq_true rfl) (by simp only [Pk.cells, netC, Pk.zero, List.drop_succ_cons, List.drop_zero, List.take_succ_cons, List.take_zero, List.set_cons_zero, List.set_cons_succ]; rfl) ?_))
    | ((with_reducible refine gSt ?_); (first | (refine eSt H rfl rfl ⟨.int _ _, rfl, ?_⟩) | (refine eSt H rfl rfl ⟨.bool _, rfl, ?_⟩) | (refine eSt H rfl rfl ⟨.slice _ _ _, rfl, ?_⟩) | (refine eSt H rfl rfl ⟨.pointer _, rfl, ?_⟩) | (refine eSt H rfl rfl ⟨.string _, rfl, ?_⟩) | (refine eSt H rfl rfl ⟨.agg (List.toArray _), rfl, ?_⟩)); (first | (refine kSt 0 rfl rfl (by first | exact T3 | exact T4 | exact T9 | exact T30 | exact T27 | exact T51 | exact T35 | exact T29 | exact T63 | exact T49) rfl (Nat.le_of_ble_eq_true rfl) ?_) | (refine kStA 0 rfl rfl (by first | exact T3 | exact T4 | exact T9 | exact T30 | exact T27 | exact T51 | exact T35 | exact T29 | exact T63 | exact T49) rfl rfl (Nat.le_of_ble_eq_true rfl) ?_)); clear H; intro w1 H; simp only [List.set_cons_zero, List.set_cons_succ] at H; (try simp only [lay, List.take_zero, List.nil_append, List.length_cons, List.length_nil, Nat.zero_add, Nat.reduceAdd, List.drop_succ_cons, List.drop_zero, List.drop_nil, List.append_nil, List.take_succ_cons, List.cons_append] at H))
    | ((with_reducible refine gBx ?_); refine bxA H rfl rfl rfl ?_; clear H; intro b1 w1 H)
    | ((with_reducible refine gBs ?_); (first | (refine bs1 H rfl (by first | exact S27 | exact S51) rfl (Nat.le_of_ble_eq_true rfl) (Nat.le_of_ble_eq_true rfl) rfl ?_) | (refine wl_buildSlice0 rfl (by first | exact S27 | exact S51) H ?_)); clear H; intro b1 w1 H)
    | ((with_reducible refine gEq ?_); (first | (refine wl_cmp rfl rfl rfl rfl ?_) | (refine wl_scmp rfl rfl rfl rfl ?_)); intro rb hrb; cases rb <;> (first | (exfalso; simp at hrb; done) | ((try simp only [decide_eq_true_eq, decide_eq_false_iff_not, beq_iff_eq, beq_eq_false_iff_ne, ne_eq, bne_iff_ne, bne_eq_false_iff_eq, Bool.not_eq_true', Bool.not_eq_false', gt_iff_lt, ge_iff_le, Int.not_lt, Int.not_le, Decidable.not_not] at hrb); (try subst hrb); (try (exfalso; omega)))))
    | ((with_reducible refine gEq ?_); (first | (refine wl_eqAgg G35 (eq35 9998 ⟨_, _, _, _, _⟩ ⟨_, _, _, _, _⟩) rfl rfl rfl ?_) | (refine wl_neAgg G35 (eq35 9998 ⟨_, _, _, _, _⟩ ⟨_, _, _, _, _⟩) rfl rfl rfl ?_)); intro rb hrb; cases rb <;> (try simp only [Bool.not_true, Bool.not_false]))
    | ((with_reducible refine gAl ?_); (first | (refine al H Z35 rfl rfl ?_) | (refine al H Z29 rfl rfl ?_)); clear H; intro b1 w1 H)
    | ((with_reducible refine gRg ?_); refine wp_region_text rfl (by decide +kernel) ?_; replace H := H.drew)
    | ((with_reducible refine EndQ.intro ?_ ?_); (· kernel_rfl)))
      any_goals go_roundg (gk - 1)
      case measure => omega
      case rel => exact ⟨k + 1, _, by have := HK.out; omega, by omega, by omega, rfl, by go_num, H⟩
      all_goals go_ret
      all_goals first | exact ⟨true, rfl, (fun h => by cases h), H⟩ | exact ⟨false, rfl, (fun _ => by omega), H⟩
    · clear hkn
      go_wp2_with (first
    | ((with_reducible refine gLd ?_); refine eLd H rfl rfl ?_; first | (refine kLdB 0 rfl rfl (by first | exact T3 | exact T4 | exact T9 | exact T30 | exact T27 | exact T51 | exact T35 | exact T29 | exact T63 | exact T49) rfl ?_; intro rb hrb; cases rb <;> (first | (exfalso; simp at hrb; done) | ((try simp only [decide_eq_true_eq, decide_eq_false_iff_not, beq_iff_eq, beq_eq_false_iff_ne, ne_eq, bne_iff_ne, bne_eq_false_iff_eq, Bool.not_eq_true', Bool.not_eq_false', gt_iff_lt, ge_iff_le, Int.not_lt, Int.not_le, Decidable.not_not] at hrb); (try subst hrb); (try (exfalso; omega))))) | (refine kLd 0 rfl rfl (by first | exact T3 | exact T4 | exact T9 | exact T30 | exact T27 | exact T51 | exact T35 | exact T29 | exact T63 | exact T49) rfl ?_) | (refine kLdA 0 rfl rfl (by first | exact T3 | exact T4 | exact T9 | exact T30 | exact T27 | exact T51 | exact T35 | exact T29 | exact T63 | exact T49) (Nat.le_of_ble_eq_true rfl) (by simp only [Pk.cells, netC, Pk.zero, List.drop_succ_cons, List.drop_zero, List.take_succ_cons, List.take_zero, List.set_cons_zero, List.set_cons_succ]; rfl) ?_))
    | ((with_reducible refine gSt ?_); (first | (refine eSt H rfl rfl ⟨.int _ _, rfl, ?_⟩) | (refine eSt H rfl rfl ⟨.bool _, rfl, ?_⟩) | (refine eSt H rfl rfl ⟨.slice _ _ _, rfl, ?_⟩) | (refine eSt H rfl rfl ⟨.pointer _, rfl, ?_⟩) | (refine eSt H rfl rfl ⟨.string _, rfl, ?_⟩) | (refine eSt H rfl rfl ⟨.agg (List.toArray _), rfl, ?_⟩)); (first | (refine kSt 0 rfl rfl (by first | exact T3 | exact T4 | exact T9 | exact T30 | exact T27 | exact T51 | exact T35 | exact T29 | exact T63 | exact T49) rfl (Nat.le_of_ble_eq_true rfl) ?_) | (refine kStA 0 rfl rfl (by first | exact T3 | exact T4 | exact T9 | exact T30 | exact T27 | exact T51 | exact T35 | exact T29 | exact T63 | exact T49) rfl rfl (Nat.le_of_ble_eq_true rfl) ?_)); clear H; intro w1 H; simp only [List.set_cons_zero, List.set_cons_succ] at H; (try simp only [lay, List.take_zero, List.nil_append, List.length_cons, List.length_nil, Nat.zero_add, Nat.reduceAdd, List.drop_succ_cons, List.drop_zero, List.drop_nil, List.append_nil, List.take_succ_cons, List.cons_append] at H))
    | ((with_reducible refine gBx ?_); refine bxA H rfl rfl rfl ?_; clear H; intro b1 w1 H)
    | ((with_reducible refine gBs ?_); (first | (refine bs1 H rfl (by first | exact S27 | exact S51) rfl (Nat.le_of_ble_eq_true rfl) (Nat.le_of_ble_eq_true rfl) rfl ?_) | (refine wl_buildSlice0 rfl (by first | exact S27 | exact S51) H ?_)); clear H; intro b1 w1 H)
    | ((with_reducible refine gEq ?_); (first | (refine wl_cmp rfl rfl rfl rfl ?_) | (refine wl_scmp rfl rfl rfl rfl ?_)); intro rb hrb; cases rb <;> (first | (exfalso; simp at hrb; done) | ((try simp only [decide_eq_true_eq, decide_eq_false_iff_not, beq_iff_eq, beq_eq_false_iff_ne, ne_eq, bne_iff_ne, bne_eq_false_iff_eq, Bool.not_eq_true', Bool.not_eq_false', gt_iff_lt, ge_iff_le, Int.not_lt, Int.not_le, Decidable.not_not] at hrb); (try subst hrb); (try (exfalso; omega)))))
    | ((with_reducible refine gEq ?_); (first | (refine wl_eqAgg G35 (eq35 9998 ⟨_, _, _, _, _⟩ ⟨_, _, _, _, _⟩) rfl rfl rfl ?_) | (refine wl_neAgg G35 (eq35 9998 ⟨_, _, _, _, _⟩ ⟨_, _, _, _, _⟩) rfl rfl rfl ?_)); intro rb hrb; cases rb <;> (try simp only [Bool.not_true, Bool.not_false]))
    | ((with_reducible refine gAl ?_); (first | (refine al H Z35 rfl rfl ?_) | (refine al H Z29 rfl rfl ?_)); clear H; intro b1 w1 H)
    | ((with_reducible refine gRg ?_); refine wp_region_text rfl (by decide +kernel) ?_; replace H := H.drew)
    | ((with_reducible refine EndQ.intro ?_ ?_); (· kernel_rfl)))
      all_goals go_ret
      all_goals first | exact ⟨true, rfl, (fun h => by cases h), H⟩ | exact ⟨false, rfl, (fun _ => by omega), H⟩
end Go.Proofs.Ytajconlnacbmjaa
