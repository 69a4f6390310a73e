/- What functions of layer 4 compute. -/
import Derived.Test.YtgnmjeajmnmobaaW14
import Derived.Test.YtgnmjeajmnmobaaGxOpr
import Derived.WalkKit
import Derived.Lib.Hide
import Derived.Deep.LoopGhost
import Derived.WalkSpells
set_option linter.unusedVariables false
set_option linter.unusedSimpArgs false
namespace Go.Proofs.Ytgnmjeajmnmobaa
open Go.RowKit Go.Gx Go.Gx.Kp
set_option maxRecDepth 100000
theorem T76 : tI Try.prog 76 = some (false, 1) := by kernel_rfl
theorem Z75 : zI Try.prog 75 = some (.agg (List.toArray [.int .i64 0, .int .i64 0])) := by kernel_rfl
theorem S116 : sI Try.prog 116 = some (120, .agg (List.toArray [.int .i64 0, .int .i64 0, .int .i64 0]), 3, 24) := by kernel_rfl
/-- a thing held: its key, its number, when it was pushed -/
abbrev HT := Int × Int × Int
def cellsH : List HT → List Value
  | [] => []
  | x :: l => .int .i64 x.1 :: .int .i64 x.2.1 :: .int .i64 x.2.2 :: cellsH l
theorem cellsH_len : ∀ l : List HT, (cellsH l).length = l.length * 3
  | [] => rfl
  | x :: l => by simp only [cellsH, List.length_cons, cellsH_len l]; omega
abbrev lessV (F : Nat) : Value := .func (.func F) #[] #[]
abbrev eHp (F p : Nat) (a : Option Nat) (n c k : Nat) : Ent := ⟨some p, [lessV F, .slice (adr a 0) n c, .int .i64 (k : Int)], 118, 3⟩
abbrev eHl (a : Option Nat) (c : Nat) (l : List HT) : Ent := ⟨a, cellsH l, 120, c * 3⟩
def NHPost (w0 : World) (D : Nat → Prop) (F : Nat) (R : List Ent) (e : Ending) (w' : World) : Prop := ∃ p, e = .returned (.pointer (some ⟨p, 0, none⟩)) ∧ Hp w0 D (eHp F p none 0 0 0 :: R) w'
set_option maxHeartbeats 4000000 in
theorem Less49 {w0 w : World} {D : Nat → Prop} {R : List Ent} {a b c d : Int} {r : Bool} (H : Hp w0 D (R) w) (hr : decide (a < c) = r) :
    Calls Try.prog 49 #[.agg (List.toArray [.int .i64 a, .int .i64 b]), .agg (List.toArray [.int .i64 c, .int .i64 d])] w fun e w' => e = .returned (.bool r) ∧ Hp w0 D R w' := by
  cases r
  · have hle : c ≤ a := by simpa using hr
    clear hr
    go_enter Try.func49, Try.ntmps49
    go_wp2_with (first
    | ((with_reducible refine gLd ?_); refine eLd H rfl rfl ?_; first | (refine kLd 0 rfl rfl (by first | exact T3 | exact T4 | exact T75 | exact T76 | exact T116 | exact T118 | exact T120) rfl ?_) | (refine kLd 1 rfl rfl (by first | exact T3 | exact T4 | exact T75 | exact T76 | exact T116 | exact T118 | exact T120) rfl ?_) | (refine kLdA 0 rfl rfl (by first | exact T3 | exact T4 | exact T75 | exact T76 | exact T116 | exact T118 | exact T120) (Nat.le_of_ble_eq_true rfl) (by simp only [List.drop_succ_cons, List.drop_zero, List.take_succ_cons, List.take_zero, List.set_cons_zero, List.set_cons_succ]; rfl) ?_) | (refine kLdA 1 rfl rfl (by first | exact T3 | exact T4 | exact T75 | exact T76 | exact T116 | exact T118 | exact T120) (Nat.le_of_ble_eq_true rfl) (by simp only [List.drop_succ_cons, List.drop_zero, List.take_succ_cons, List.take_zero, List.set_cons_zero, List.set_cons_succ]; rfl) ?_))
    | ((with_reducible refine gSt ?_); (first | (refine eSt H rfl rfl ⟨.int _ _, rfl, ?_⟩) | (refine eSt H rfl rfl ⟨.bool _, rfl, ?_⟩) | (refine eSt H rfl rfl ⟨.slice _ _ _, rfl, ?_⟩) | (refine eSt H rfl rfl ⟨.pointer _, rfl, ?_⟩) | (refine eSt H rfl rfl ⟨.string _, rfl, ?_⟩) | (refine eSt H rfl rfl ⟨.agg (List.toArray _), rfl, ?_⟩)); (first | (refine kSt 0 rfl rfl (by first | exact T3 | exact T4 | exact T75 | exact T76 | exact T116 | exact T118 | exact T120) rfl (Nat.le_of_ble_eq_true rfl) ?_) | (refine kSt 1 rfl rfl (by first | exact T3 | exact T4 | exact T75 | exact T76 | exact T116 | exact T118 | exact T120) rfl (Nat.le_of_ble_eq_true rfl) ?_) | (refine kStA 0 rfl rfl (by first | exact T3 | exact T4 | exact T75 | exact T76 | exact T116 | exact T118 | exact T120) rfl rfl (Nat.le_of_ble_eq_true rfl) ?_) | (refine kStA 1 rfl rfl (by first | exact T3 | exact T4 | exact T75 | exact T76 | exact T116 | exact T118 | exact T120) rfl rfl (Nat.le_of_ble_eq_true rfl) ?_)); clear H; intro w1 H; simp only [List.set_cons_zero, List.set_cons_succ] at H; (try simp only [lay, List.take_zero, List.nil_append, List.length_cons, List.length_nil, Nat.zero_add, Nat.reduceAdd, List.drop_succ_cons, List.drop_zero, List.drop_nil, List.append_nil, List.take_succ_cons, List.cons_append] at H))
    | ((with_reducible refine gBx ?_); refine bxA H rfl rfl rfl ?_; clear H; intro b1 w1 H)
    | ((with_reducible refine gBs ?_); (first | (refine bs1 H rfl (by first | exact S0) rfl (Nat.le_of_ble_eq_true rfl) (Nat.le_of_ble_eq_true rfl) rfl ?_) | (refine wl_buildSlice0 rfl (by first | exact S0) H ?_)); clear H; intro b1 w1 H)
    | ((with_reducible refine gEq ?_); (first | (refine wl_cmp rfl rfl rfl rfl ?_) | (refine wl_scmp rfl rfl rfl rfl ?_)); intro rb hrb; cases rb <;> (first | (exfalso; simp at hrb; done) | ((try simp only [decide_eq_true_eq, decide_eq_false_iff_not, beq_iff_eq, beq_eq_false_iff_ne, ne_eq, bne_iff_ne, bne_eq_false_iff_eq, Bool.not_eq_true', Bool.not_eq_false', gt_iff_lt, ge_iff_le, Int.not_lt, Int.not_le, Decidable.not_not] at hrb); (try subst hrb); (try (exfalso; omega)))))
    | ((with_reducible refine gAl ?_); (first | (refine al H Z75 rfl rfl ?_)); clear H; intro b1 w1 H)
    | ((with_reducible refine gRg ?_); refine wp_region_text rfl (by decide +kernel) ?_; replace H := H.drew)
    | ((with_reducible refine EndQ.intro ?_ ?_); (· kernel_rfl)))
    all_goals (go_ret; exact ⟨rfl, H.drop.drop⟩)
  · have hlt : a < c := by simpa using hr
    clear hr
    go_enter Try.func49, Try.ntmps49
    go_wp2_with (first
    | ((with_reducible refine gLd ?_); refine eLd H rfl rfl ?_; first | (refine kLd 0 rfl rfl (by first | exact T3 | exact T4 | exact T75 | exact T76 | exact T116 | exact T118 | exact T120) rfl ?_) | (refine kLd 1 rfl rfl (by first | exact T3 | exact T4 | exact T75 | exact T76 | exact T116 | exact T118 | exact T120) rfl ?_) | (refine kLdA 0 rfl rfl (by first | exact T3 | exact T4 | exact T75 | exact T76 | exact T116 | exact T118 | exact T120) (Nat.le_of_ble_eq_true rfl) (by simp only [List.drop_succ_cons, List.drop_zero, List.take_succ_cons, List.take_zero, List.set_cons_zero, List.set_cons_succ]; rfl) ?_) | (refine kLdA 1 rfl rfl (by first | exact T3 | exact T4 | exact T75 | exact T76 | exact T116 | exact T118 | exact T120) (Nat.le_of_ble_eq_true rfl) (by simp only [List.drop_succ_cons, List.drop_zero, List.take_succ_cons, List.take_zero, List.set_cons_zero, List.set_cons_succ]; rfl) ?_))
    | ((with_reducible refine gSt ?_); (first | (refine eSt H rfl rfl ⟨.int _ _, rfl, ?_⟩) | (refine eSt H rfl rfl ⟨.bool _, rfl, ?_⟩) | (refine eSt H rfl rfl ⟨.slice _ _ _, rfl, ?_⟩) | (refine eSt H rfl rfl ⟨.pointer _, rfl, ?_⟩) | (refine eSt H rfl rfl ⟨.string _, rfl, ?_⟩) | (refine eSt H rfl rfl ⟨.agg (List.toArray _), rfl, ?_⟩)); (first | (refine kSt 0 rfl rfl (by first | exact T3 | exact T4 | exact T75 | exact T76 | exact T116 | exact T118 | exact T120) rfl (Nat.le_of_ble_eq_true rfl) ?_) | (refine kSt 1 rfl rfl (by first | exact T3 | exact T4 | exact T75 | exact T76 | exact T116 | exact T118 | exact T120) rfl (Nat.le_of_ble_eq_true rfl) ?_) | (refine kStA 0 rfl rfl (by first | exact T3 | exact T4 | exact T75 | exact T76 | exact T116 | exact T118 | exact T120) rfl rfl (Nat.le_of_ble_eq_true rfl) ?_) | (refine kStA 1 rfl rfl (by first | exact T3 | exact T4 | exact T75 | exact T76 | exact T116 | exact T118 | exact T120) rfl rfl (Nat.le_of_ble_eq_true rfl) ?_)); clear H; intro w1 H; simp only [List.set_cons_zero, List.set_cons_succ] at H; (try simp only [lay, List.take_zero, List.nil_append, List.length_cons, List.length_nil, Nat.zero_add, Nat.reduceAdd, List.drop_succ_cons, List.drop_zero, List.drop_nil, List.append_nil, List.take_succ_cons, List.cons_append] at H))
    | ((with_reducible refine gBx ?_); refine bxA H rfl rfl rfl ?_; clear H; intro b1 w1 H)
    | ((with_reducible refine gBs ?_); (first | (refine bs1 H rfl (by first | exact S0) rfl (Nat.le_of_ble_eq_true rfl) (Nat.le_of_ble_eq_true rfl) rfl ?_) | (refine wl_buildSlice0 rfl (by first | exact S0) H ?_)); clear H; intro b1 w1 H)
    | ((with_reducible refine gEq ?_); (first | (refine wl_cmp rfl rfl rfl rfl ?_) | (refine wl_scmp rfl rfl rfl rfl ?_)); intro rb hrb; cases rb <;> (first | (exfalso; simp at hrb; done) | ((try simp only [decide_eq_true_eq, decide_eq_false_iff_not, beq_iff_eq, beq_eq_false_iff_ne, ne_eq, bne_iff_ne, bne_eq_false_iff_eq, Bool.not_eq_true', Bool.not_eq_false', gt_iff_lt, ge_iff_le, Int.not_lt, Int.not_le, Decidable.not_not] at hrb); (try subst hrb); (try (exfalso; omega)))))
    | ((with_reducible refine gAl ?_); (first | (refine al H Z75 rfl rfl ?_)); clear H; intro b1 w1 H)
    | ((with_reducible refine gRg ?_); refine wp_region_text rfl (by decide +kernel) ?_; replace H := H.drew)
    | ((with_reducible refine EndQ.intro ?_ ?_); (· kernel_rfl)))
    all_goals (go_ret; exact ⟨rfl, H.drop.drop⟩)
set_option maxHeartbeats 4000000 in
theorem NewHeap49 {w0 w : World} {D : Nat → Prop} {R : List Ent}  (H : Hp w0 D (R) w)  :
    Calls Try.prog 40 #[lessV 49] w fun e w' => NHPost w0 D 49 R e w' := by
  go_enter Try.func40, Try.ntmps40
  go_wp2_with (first
    | ((with_reducible refine gLd ?_); refine eLd H rfl rfl ?_; first | (refine kLd 0 rfl rfl (by first | exact T3 | exact T4 | exact T75 | exact T76 | exact T116 | exact T118 | exact T120) rfl ?_) | (refine kLd 1 rfl rfl (by first | exact T3 | exact T4 | exact T75 | exact T76 | exact T116 | exact T118 | exact T120) rfl ?_) | (refine kLdA 0 rfl rfl (by first | exact T3 | exact T4 | exact T75 | exact T76 | exact T116 | exact T118 | exact T120) (Nat.le_of_ble_eq_true rfl) (by simp only [List.drop_succ_cons, List.drop_zero, List.take_succ_cons, List.take_zero, List.set_cons_zero, List.set_cons_succ]; rfl) ?_) | (refine kLdA 1 rfl rfl (by first | exact T3 | exact T4 | exact T75 | exact T76 | exact T116 | exact T118 | exact T120) (Nat.le_of_ble_eq_true rfl) (by simp only [List.drop_succ_cons, List.drop_zero, List.take_succ_cons, List.take_zero, List.set_cons_zero, List.set_cons_succ]; rfl) ?_))
    | ((with_reducible refine gSt ?_); (first | (refine eSt H rfl rfl ⟨.int _ _, rfl, ?_⟩) | (refine eSt H rfl rfl ⟨.bool _, rfl, ?_⟩) | (refine eSt H rfl rfl ⟨.slice _ _ _, rfl, ?_⟩) | (refine eSt H rfl rfl ⟨.pointer _, rfl, ?_⟩) | (refine eSt H rfl rfl ⟨.string _, rfl, ?_⟩) | (refine eSt H rfl rfl ⟨.agg (List.toArray _), rfl, ?_⟩)); (first | (refine kSt 0 rfl rfl (by first | exact T3 | exact T4 | exact T75 | exact T76 | exact T116 | exact T118 | exact T120) rfl (Nat.le_of_ble_eq_true rfl) ?_) | (refine kSt 1 rfl rfl (by first | exact T3 | exact T4 | exact T75 | exact T76 | exact T116 | exact T118 | exact T120) rfl (Nat.le_of_ble_eq_true rfl) ?_) | (refine kStA 0 rfl rfl (by first | exact T3 | exact T4 | exact T75 | exact T76 | exact T116 | exact T118 | exact T120) rfl rfl (Nat.le_of_ble_eq_true rfl) ?_) | (refine kStA 1 rfl rfl (by first | exact T3 | exact T4 | exact T75 | exact T76 | exact T116 | exact T118 | exact T120) rfl rfl (Nat.le_of_ble_eq_true rfl) ?_)); clear H; intro w1 H; simp only [List.set_cons_zero, List.set_cons_succ] at H; (try simp only [lay, List.take_zero, List.nil_append, List.length_cons, List.length_nil, Nat.zero_add, Nat.reduceAdd, List.drop_succ_cons, List.drop_zero, List.drop_nil, List.append_nil, List.take_succ_cons, List.cons_append] at H))
    | ((with_reducible refine gBx ?_); refine bxA H rfl rfl rfl ?_; clear H; intro b1 w1 H)
    | ((with_reducible refine gBs ?_); (first | (refine bs1 H rfl (by first | exact S0) rfl (Nat.le_of_ble_eq_true rfl) (Nat.le_of_ble_eq_true rfl) rfl ?_) | (refine wl_buildSlice0 rfl (by first | exact S0) H ?_)); clear H; intro b1 w1 H)
    | ((with_reducible refine gEq ?_); (first | (refine wl_cmp rfl rfl rfl rfl ?_) | (refine wl_scmp rfl rfl rfl rfl ?_)); intro rb hrb; cases rb <;> (first | (exfalso; simp at hrb; done) | ((try simp only [decide_eq_true_eq, decide_eq_false_iff_not, beq_iff_eq, beq_eq_false_iff_ne, ne_eq, bne_iff_ne, bne_eq_false_iff_eq, Bool.not_eq_true', Bool.not_eq_false', gt_iff_lt, ge_iff_le, Int.not_lt, Int.not_le, Decidable.not_not] at hrb); (try subst hrb); (try (exfalso; omega)))))
    | ((with_reducible refine gAl ?_); (first | (refine al H Z75 rfl rfl ?_)); clear H; intro b1 w1 H)
    | ((with_reducible refine gRg ?_); refine wp_region_text rfl (by decide +kernel) ?_; replace H := H.drew)
    | ((with_reducible refine EndQ.intro ?_ ?_); (· kernel_rfl)))
  go_ret
  exact ⟨_, rfl, H⟩
set_option maxHeartbeats 4000000 in
theorem HLen49 {w0 w : World} {D : Nat → Prop} {R : List Ent} {p n c k : Nat} {a : Option Nat} (H : Hp w0 D (eHp 49 p a n c k :: R) w)  :
    Calls Try.prog 52 #[.pointer (some ⟨p, 0, none⟩)] w fun e w' => e = .returned (.int .i64 (n : Int)) ∧ Hp w0 D (eHp 49 p a n c k :: R) w' := by
  go_enter Try.func52, Try.ntmps52
  go_wp2_with (first
    | ((with_reducible refine gLd ?_); refine eLd H rfl rfl ?_; first | (refine kLd 0 rfl rfl (by first | exact T3 | exact T4 | exact T75 | exact T76 | exact T116 | exact T118 | exact T120) rfl ?_) | (refine kLd 1 rfl rfl (by first | exact T3 | exact T4 | exact T75 | exact T76 | exact T116 | exact T118 | exact T120) rfl ?_) | (refine kLdA 0 rfl rfl (by first | exact T3 | exact T4 | exact T75 | exact T76 | exact T116 | exact T118 | exact T120) (Nat.le_of_ble_eq_true rfl) (by simp only [List.drop_succ_cons, List.drop_zero, List.take_succ_cons, List.take_zero, List.set_cons_zero, List.set_cons_succ]; rfl) ?_) | (refine kLdA 1 rfl rfl (by first | exact T3 | exact T4 | exact T75 | exact T76 | exact T116 | exact T118 | exact T120) (Nat.le_of_ble_eq_true rfl) (by simp only [List.drop_succ_cons, List.drop_zero, List.take_succ_cons, List.take_zero, List.set_cons_zero, List.set_cons_succ]; rfl) ?_))
    | ((with_reducible refine gSt ?_); (first | (refine eSt H rfl rfl ⟨.int _ _, rfl, ?_⟩) | (refine eSt H rfl rfl ⟨.bool _, rfl, ?_⟩) | (refine eSt H rfl rfl ⟨.slice _ _ _, rfl, ?_⟩) | (refine eSt H rfl rfl ⟨.pointer _, rfl, ?_⟩) | (refine eSt H rfl rfl ⟨.string _, rfl, ?_⟩) | (refine eSt H rfl rfl ⟨.agg (List.toArray _), rfl, ?_⟩)); (first | (refine kSt 0 rfl rfl (by first | exact T3 | exact T4 | exact T75 | exact T76 | exact T116 | exact T118 | exact T120) rfl (Nat.le_of_ble_eq_true rfl) ?_) | (refine kSt 1 rfl rfl (by first | exact T3 | exact T4 | exact T75 | exact T76 | exact T116 | exact T118 | exact T120) rfl (Nat.le_of_ble_eq_true rfl) ?_) | (refine kStA 0 rfl rfl (by first | exact T3 | exact T4 | exact T75 | exact T76 | exact T116 | exact T118 | exact T120) rfl rfl (Nat.le_of_ble_eq_true rfl) ?_) | (refine kStA 1 rfl rfl (by first | exact T3 | exact T4 | exact T75 | exact T76 | exact T116 | exact T118 | exact T120) rfl rfl (Nat.le_of_ble_eq_true rfl) ?_)); clear H; intro w1 H; simp only [List.set_cons_zero, List.set_cons_succ] at H; (try simp only [lay, List.take_zero, List.nil_append, List.length_cons, List.length_nil, Nat.zero_add, Nat.reduceAdd, List.drop_succ_cons, List.drop_zero, List.drop_nil, List.append_nil, List.take_succ_cons, List.cons_append] at H))
    | ((with_reducible refine gBx ?_); refine bxA H rfl rfl rfl ?_; clear H; intro b1 w1 H)
    | ((with_reducible refine gBs ?_); (first | (refine bs1 H rfl (by first | exact S0) rfl (Nat.le_of_ble_eq_true rfl) (Nat.le_of_ble_eq_true rfl) rfl ?_) | (refine wl_buildSlice0 rfl (by first | exact S0) H ?_)); clear H; intro b1 w1 H)
    | ((with_reducible refine gEq ?_); (first | (refine wl_cmp rfl rfl rfl rfl ?_) | (refine wl_scmp rfl rfl rfl rfl ?_)); intro rb hrb; cases rb <;> (first | (exfalso; simp at hrb; done) | ((try simp only [decide_eq_true_eq, decide_eq_false_iff_not, beq_iff_eq, beq_eq_false_iff_ne, ne_eq, bne_iff_ne, bne_eq_false_iff_eq, Bool.not_eq_true', Bool.not_eq_false', gt_iff_lt, ge_iff_le, Int.not_lt, Int.not_le, Decidable.not_not] at hrb); (try subst hrb); (try (exfalso; omega)))))
    | ((with_reducible refine gAl ?_); (first | (refine al H Z75 rfl rfl ?_)); clear H; intro b1 w1 H)
    | ((with_reducible refine gRg ?_); refine wp_region_text rfl (by decide +kernel) ?_; replace H := H.drew)
    | ((with_reducible refine EndQ.intro ?_ ?_); (· kernel_rfl)))
  all_goals (go_ret; exact ⟨rfl, H⟩)
end Go.Proofs.Ytgnmjeajmnmobaa
