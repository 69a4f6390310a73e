/- What functions of layer 2 compute. -/
import Derived.Test.YtfcmjddpoacenaaW7
import Derived.Test.YtfcmjddpoacenaaW2
import Derived.Test.YtfcmjddpoacenaaGxRfIn
import Derived.Deep.Cut
import Derived.TacticsInMore
import Derived.Shelf.Abstract
import Derived.WalkKit
import Derived.Lib.Hide
import Derived.Deep.LoopGhost
import Derived.WalkSpells
set_option linter.unusedVariables false
set_option linter.unusedSimpArgs false
namespace Go.Proofs.Ytfcmjddpoacenaa
open Go.RowKit Go.Gx Go.Gx.Dsk
set_option maxRecDepth 100000
attribute [local go_sem] Oper.semAt_some
theorem Z33 : zI Try.prog 33 = some (.slice none 0 0) := by kernel_rfl
theorem Z4 : zI Try.prog 4 = some (.bool false) := by kernel_rfl
theorem end_noneR {P : Program} {fn : Func} {R : Ending → World → Prop} {ts : Array Value} {w : World} (h : fn.results = #[]) (k : R (.returned (.tuple #[])) w) : bodyPost P fn R .ret ⟨ts, []⟩ w := ⟨rfl, _, results_none h ts P w, k⟩
theorem eqf56 {fn : Fn} {cs bs : Array Value} (w : World) : (Op.equalIn 10000 56 (.func fn cs bs) .nilFunc).run Try.prog w = .ok false w := by
  rw [show (10000 : Nat) = 9999 + 1 from rfl]
  unfold Op.equalIn
  simp only [Sem.run_bind, run_underlying Try.underlying56, Result.andThen_ok]
  rfl
theorem run_nilF {w : World} {a : Act} {fn : Fn} {cs bs : Array Value} {u ty : TypeId} {dst : Option Tmp} {x y : Operand} {pos : String} {af : Array Edge} {g : Option (Nat × Bool)} (hx : a.eval x = .func fn cs bs) (hy : a.eval y = .nilFunc) :
    (execOp a.eval ⟨dst, .binOp .eql 56 x y u, ty, pos, af, g⟩).run Try.prog w = .ok (.value (.bool false)) w := by
  simp [execOp, hx, hy, eqGuard, binOp, Op.equal, Op.maxDepth, eqf56]
theorem wl_nilF {w : World} {a : Act} {ops : Array Oper} {Q : Exit → Act → World → Prop} {rest : List Oper} {fn : Fn} {cs bs : Array Value} {u ty : TypeId} {dst : Option Tmp} {x y : Operand} {pos : String} {af : Array Edge} {g : Option (Nat × Bool)}
    (hw : Region.wanted ⟨dst, .binOp .eql 56 x y u, ty, pos, af, g⟩ (yielded ops a.tmps) = true) (hx : a.eval x = .func fn cs bs) (hy : a.eval y = .nilFunc)
    (k : wpList Try.prog ops Q rest (a.put dst (.bool false)) w) : wpList Try.prog ops Q (⟨dst, .binOp .eql 56 x y u, ty, pos, af, g⟩ :: rest) a w := wl_run hw (run_nilF hx hy) k
theorem eqp23 {q : Addr} (w : World) : (Op.equalIn 10000 23 (.pointer none) (.pointer (some q))).run Try.prog w = .ok false w := by
  rw [show (10000 : Nat) = 9999 + 1 from rfl]
  unfold Op.equalIn
  simp only [Sem.run_bind, run_underlying Try.underlying23, Result.andThen_ok]
  rfl
theorem run_eqp {w : World} {a : Act} {q : Addr} {u ty : TypeId} {dst : Option Tmp} {x y : Operand} {pos : String} {af : Array Edge} {g : Option (Nat × Bool)} (hx : a.eval x = .pointer none) (hy : a.eval y = .pointer (some q)) :
    (execOp a.eval ⟨dst, .binOp .eql 23 x y u, ty, pos, af, g⟩).run Try.prog w = .ok (.value (.bool false)) w := by
  simp [execOp, hx, hy, eqGuard, binOp, Op.equal, Op.maxDepth, eqp23]
theorem wl_eqp {w : World} {a : Act} {ops : Array Oper} {Q : Exit → Act → World → Prop} {rest : List Oper} {q : Addr} {u ty : TypeId} {dst : Option Tmp} {x y : Operand} {pos : String} {af : Array Edge} {g : Option (Nat × Bool)}
    (hw : Region.wanted ⟨dst, .binOp .eql 23 x y u, ty, pos, af, g⟩ (yielded ops a.tmps) = true) (hx : a.eval x = .pointer none) (hy : a.eval y = .pointer (some q))
    (k : wpList Try.prog ops Q rest (a.put dst (.bool false)) w) : wpList Try.prog ops Q (⟨dst, .binOp .eql 23 x y u, ty, pos, af, g⟩ :: rest) a w := wl_run hw (run_eqp hx hy) k
set_option maxHeartbeats 4000000 in
theorem ReadN {w0 w : World} {D : Nat → Prop} {R : List Ent}  (H : Hp w0 D (R) w)  :
    Calls Try.prog 32 #[.pointer none, .int .i64 0] w fun e w' => e = .returned (.tuple #[.string ⟨#[]⟩, .int .i64 7]) ∧ Hp w0 D R w' := by
  try simp only [dkC, Wr.cells, bmt, eD, eS, eW] at H
  go_enter Try.func32, Try.ntmps32
  go_wp2_with (first
    | ((with_reducible refine gLd ?_); refine eLd H rfl rfl ?_; first | (refine kLd 0 rfl rfl (by first | exact T3 | exact T4 | exact T9 | exact T23 | exact T27 | exact T31 | exact T33 | exact T45 | exact T37 | exact T41 | exact T50 | exact T52 | exact T69 | exact T72) rfl ?_) | (refine kLdA 0 rfl rfl (by first | exact T3 | exact T4 | exact T9 | exact T23 | exact T27 | exact T31 | exact T33 | exact T45 | exact T37 | exact T41 | exact T50 | exact T52 | exact T69 | exact T72) (Nat.le_of_ble_eq_true rfl) (by simp only [dkC, Wr.cells, bmt, eD, eS, eW, List.drop_succ_cons, List.drop_zero, List.take_succ_cons, List.take_zero, List.set_cons_zero, List.set_cons_succ]; rfl) ?_))
    | ((with_reducible refine gSt ?_); (first | (refine eSt H rfl rfl ⟨.int _ _, rfl, ?_⟩) | (refine eSt H rfl rfl ⟨.bool _, rfl, ?_⟩) | (refine eSt H rfl rfl ⟨.slice _ _ _, rfl, ?_⟩) | (refine eSt H rfl rfl ⟨.pointer _, rfl, ?_⟩) | (refine eSt H rfl rfl ⟨.string _, rfl, ?_⟩) | (refine eSt H rfl rfl ⟨.agg (List.toArray _), rfl, ?_⟩)); (first | (refine kSt 0 rfl rfl (by first | exact T3 | exact T4 | exact T9 | exact T23 | exact T27 | exact T31 | exact T33 | exact T45 | exact T37 | exact T41 | exact T50 | exact T52 | exact T69 | exact T72) rfl (Nat.le_of_ble_eq_true rfl) ?_) | (refine kStA 0 rfl rfl (by first | exact T3 | exact T4 | exact T9 | exact T23 | exact T27 | exact T31 | exact T33 | exact T45 | exact T37 | exact T41 | exact T50 | exact T52 | exact T69 | exact T72) rfl rfl (Nat.le_of_ble_eq_true rfl) ?_)); clear H; intro w1 H; simp only [List.set_cons_zero, List.set_cons_succ] at H; (try simp only [lay, List.take_zero, List.nil_append, List.length_cons, List.length_nil, Nat.zero_add, Nat.reduceAdd, List.drop_succ_cons, List.drop_zero, List.drop_nil, List.append_nil, List.take_succ_cons, List.cons_append] at H))
    | ((with_reducible refine gBx ?_); refine bxA H rfl rfl rfl ?_; clear H; intro b1 w1 H)
    | ((with_reducible refine gBs ?_); (first | (refine bs1 H rfl (by first | exact S33 | exact S45 | exact S31) rfl (Nat.le_of_ble_eq_true rfl) (Nat.le_of_ble_eq_true rfl) rfl ?_) | (refine wl_buildSlice0 rfl (by first | exact S33 | exact S45 | exact S31) H ?_)); clear H; intro b1 w1 H)
    | ((with_reducible refine gEq ?_); (first | (refine wl_cmp rfl rfl rfl rfl ?_) | (refine wl_scmp rfl rfl rfl rfl ?_)); intro rb hrb; cases rb <;> (first | (exfalso; simp at hrb; done) | ((try simp only [decide_eq_true_eq, decide_eq_false_iff_not, beq_iff_eq, beq_eq_false_iff_ne, ne_eq, bne_iff_ne, bne_eq_false_iff_eq, Bool.not_eq_true', Bool.not_eq_false', gt_iff_lt, ge_iff_le, Int.not_lt, Int.not_le, Decidable.not_not] at hrb); (try subst hrb); (try (exfalso; omega)))))
    | ((with_reducible refine gAl ?_); (first | (refine al H Z50 rfl rfl ?_) | (refine al H Z41 rfl rfl ?_)); clear H; intro b1 w1 H)
    | ((with_reducible refine gRg ?_); refine wp_region_text rfl (by decide +kernel) ?_; replace H := H.drew)
    | ((with_reducible refine EndQ.intro ?_ ?_); (· kernel_rfl)))
  all_goals (go_ret2; exact ⟨rfl, H⟩)
set_option maxHeartbeats 4000000 in
theorem CutN {w0 w : World} {D : Nat → Prop} {R : List Ent}  (H : Hp w0 D (R) w)  :
    Calls Try.prog 23 #[.pointer none, .int .i64 0] w fun e w' => e = .returned (.tuple #[.pointer none, .int .i64 7]) ∧ Hp w0 D R w' := by
  try simp only [dkC, Wr.cells, bmt, eD, eS, eW] at H
  go_enter Try.func23, Try.ntmps23
  go_wp2_with (first
    | ((with_reducible refine gLd ?_); refine eLd H rfl rfl ?_; first | (refine kLd 0 rfl rfl (by first | exact T3 | exact T4 | exact T9 | exact T23 | exact T27 | exact T31 | exact T33 | exact T45 | exact T37 | exact T41 | exact T50 | exact T52 | exact T69 | exact T72) rfl ?_) | (refine kLdA 0 rfl rfl (by first | exact T3 | exact T4 | exact T9 | exact T23 | exact T27 | exact T31 | exact T33 | exact T45 | exact T37 | exact T41 | exact T50 | exact T52 | exact T69 | exact T72) (Nat.le_of_ble_eq_true rfl) (by simp only [dkC, Wr.cells, bmt, eD, eS, eW, List.drop_succ_cons, List.drop_zero, List.take_succ_cons, List.take_zero, List.set_cons_zero, List.set_cons_succ]; rfl) ?_))
    | ((with_reducible refine gSt ?_); (first | (refine eSt H rfl rfl ⟨.int _ _, rfl, ?_⟩) | (refine eSt H rfl rfl ⟨.bool _, rfl, ?_⟩) | (refine eSt H rfl rfl ⟨.slice _ _ _, rfl, ?_⟩) | (refine eSt H rfl rfl ⟨.pointer _, rfl, ?_⟩) | (refine eSt H rfl rfl ⟨.string _, rfl, ?_⟩) | (refine eSt H rfl rfl ⟨.agg (List.toArray _), rfl, ?_⟩)); (first | (refine kSt 0 rfl rfl (by first | exact T3 | exact T4 | exact T9 | exact T23 | exact T27 | exact T31 | exact T33 | exact T45 | exact T37 | exact T41 | exact T50 | exact T52 | exact T69 | exact T72) rfl (Nat.le_of_ble_eq_true rfl) ?_) | (refine kStA 0 rfl rfl (by first | exact T3 | exact T4 | exact T9 | exact T23 | exact T27 | exact T31 | exact T33 | exact T45 | exact T37 | exact T41 | exact T50 | exact T52 | exact T69 | exact T72) rfl rfl (Nat.le_of_ble_eq_true rfl) ?_)); clear H; intro w1 H; simp only [List.set_cons_zero, List.set_cons_succ] at H; (try simp only [lay, List.take_zero, List.nil_append, List.length_cons, List.length_nil, Nat.zero_add, Nat.reduceAdd, List.drop_succ_cons, List.drop_zero, List.drop_nil, List.append_nil, List.take_succ_cons, List.cons_append] at H))
    | ((with_reducible refine gBx ?_); refine bxA H rfl rfl rfl ?_; clear H; intro b1 w1 H)
    | ((with_reducible refine gBs ?_); (first | (refine bs1 H rfl (by first | exact S33 | exact S45 | exact S31) rfl (Nat.le_of_ble_eq_true rfl) (Nat.le_of_ble_eq_true rfl) rfl ?_) | (refine wl_buildSlice0 rfl (by first | exact S33 | exact S45 | exact S31) H ?_)); clear H; intro b1 w1 H)
    | ((with_reducible refine gEq ?_); (first | (refine wl_cmp rfl rfl rfl rfl ?_) | (refine wl_scmp rfl rfl rfl rfl ?_)); intro rb hrb; cases rb <;> (first | (exfalso; simp at hrb; done) | ((try simp only [decide_eq_true_eq, decide_eq_false_iff_not, beq_iff_eq, beq_eq_false_iff_ne, ne_eq, bne_iff_ne, bne_eq_false_iff_eq, Bool.not_eq_true', Bool.not_eq_false', gt_iff_lt, ge_iff_le, Int.not_lt, Int.not_le, Decidable.not_not] at hrb); (try subst hrb); (try (exfalso; omega)))))
    | ((with_reducible refine gAl ?_); (first | (refine al H Z50 rfl rfl ?_) | (refine al H Z41 rfl rfl ?_)); clear H; intro b1 w1 H)
    | ((with_reducible refine gRg ?_); refine wp_region_text rfl (by decide +kernel) ?_; replace H := H.drew)
    | ((with_reducible refine EndQ.intro ?_ ?_); (· kernel_rfl)))
  all_goals (go_ret2; exact ⟨rfl, H⟩)
set_option maxHeartbeats 4000000 in
theorem LeftN {w0 w : World} {D : Nat → Prop} {R : List Ent}  (H : Hp w0 D (R) w)  :
    Calls Try.prog 33 #[.pointer none] w fun e w' => e = .returned (.tuple #[.int .i64 0, .bool false]) ∧ Hp w0 D R w' := by
  try simp only [dkC, Wr.cells, bmt, eD, eS, eW] at H
  go_enter Try.func33, Try.ntmps33
  go_wp2_with (first
    | ((with_reducible refine gLd ?_); refine eLd H rfl rfl ?_; first | (refine kLd 0 rfl rfl (by first | exact T3 | exact T4 | exact T9 | exact T23 | exact T27 | exact T31 | exact T33 | exact T45 | exact T37 | exact T41 | exact T50 | exact T52 | exact T69 | exact T72) rfl ?_) | (refine kLdA 0 rfl rfl (by first | exact T3 | exact T4 | exact T9 | exact T23 | exact T27 | exact T31 | exact T33 | exact T45 | exact T37 | exact T41 | exact T50 | exact T52 | exact T69 | exact T72) (Nat.le_of_ble_eq_true rfl) (by simp only [dkC, Wr.cells, bmt, eD, eS, eW, List.drop_succ_cons, List.drop_zero, List.take_succ_cons, List.take_zero, List.set_cons_zero, List.set_cons_succ]; rfl) ?_))
    | ((with_reducible refine gSt ?_); (first | (refine eSt H rfl rfl ⟨.int _ _, rfl, ?_⟩) | (refine eSt H rfl rfl ⟨.bool _, rfl, ?_⟩) | (refine eSt H rfl rfl ⟨.slice _ _ _, rfl, ?_⟩) | (refine eSt H rfl rfl ⟨.pointer _, rfl, ?_⟩) | (refine eSt H rfl rfl ⟨.string _, rfl, ?_⟩) | (refine eSt H rfl rfl ⟨.agg (List.toArray _), rfl, ?_⟩)); (first | (refine kSt 0 rfl rfl (by first | exact T3 | exact T4 | exact T9 | exact T23 | exact T27 | exact T31 | exact T33 | exact T45 | exact T37 | exact T41 | exact T50 | exact T52 | exact T69 | exact T72) rfl (Nat.le_of_ble_eq_true rfl) ?_) | (refine kStA 0 rfl rfl (by first | exact T3 | exact T4 | exact T9 | exact T23 | exact T27 | exact T31 | exact T33 | exact T45 | exact T37 | exact T41 | exact T50 | exact T52 | exact T69 | exact T72) rfl rfl (Nat.le_of_ble_eq_true rfl) ?_)); clear H; intro w1 H; simp only [List.set_cons_zero, List.set_cons_succ] at H; (try simp only [lay, List.take_zero, List.nil_append, List.length_cons, List.length_nil, Nat.zero_add, Nat.reduceAdd, List.drop_succ_cons, List.drop_zero, List.drop_nil, List.append_nil, List.take_succ_cons, List.cons_append] at H))
    | ((with_reducible refine gBx ?_); refine bxA H rfl rfl rfl ?_; clear H; intro b1 w1 H)
    | ((with_reducible refine gBs ?_); (first | (refine bs1 H rfl (by first | exact S33 | exact S45 | exact S31) rfl (Nat.le_of_ble_eq_true rfl) (Nat.le_of_ble_eq_true rfl) rfl ?_) | (refine wl_buildSlice0 rfl (by first | exact S33 | exact S45 | exact S31) H ?_)); clear H; intro b1 w1 H)
    | ((with_reducible refine gEq ?_); (first | (refine wl_cmp rfl rfl rfl rfl ?_) | (refine wl_scmp rfl rfl rfl rfl ?_)); intro rb hrb; cases rb <;> (first | (exfalso; simp at hrb; done) | ((try simp only [decide_eq_true_eq, decide_eq_false_iff_not, beq_iff_eq, beq_eq_false_iff_ne, ne_eq, bne_iff_ne, bne_eq_false_iff_eq, Bool.not_eq_true', Bool.not_eq_false', gt_iff_lt, ge_iff_le, Int.not_lt, Int.not_le, Decidable.not_not] at hrb); (try subst hrb); (try (exfalso; omega)))))
    | ((with_reducible refine gAl ?_); (first | (refine al H Z50 rfl rfl ?_) | (refine al H Z41 rfl rfl ?_)); clear H; intro b1 w1 H)
    | ((with_reducible refine gRg ?_); refine wp_region_text rfl (by decide +kernel) ?_; replace H := H.drew)
    | ((with_reducible refine EndQ.intro ?_ ?_); (· kernel_rfl)))
  all_goals (go_ret2; exact ⟨rfl, H⟩)
set_option maxHeartbeats 4000000 in
theorem StartN {w0 w : World} {D : Nat → Prop} {R : List Ent}  (H : Hp w0 D (R) w)  :
    Calls Try.prog 34 #[.pointer none] w fun e w' => e = .returned (.tuple #[]) ∧ Hp w0 D R w' := by
  try simp only [dkC, Wr.cells, bmt, eD, eS, eW] at H
  go_enter Try.func34, Try.ntmps34
  go_wp2_with (first
    | ((with_reducible refine gLd ?_); refine eLd H rfl rfl ?_; first | (refine kLd 0 rfl rfl (by first | exact T3 | exact T4 | exact T9 | exact T23 | exact T27 | exact T31 | exact T33 | exact T45 | exact T37 | exact T41 | exact T50 | exact T52 | exact T69 | exact T72) rfl ?_) | (refine kLdA 0 rfl rfl (by first | exact T3 | exact T4 | exact T9 | exact T23 | exact T27 | exact T31 | exact T33 | exact T45 | exact T37 | exact T41 | exact T50 | exact T52 | exact T69 | exact T72) (Nat.le_of_ble_eq_true rfl) (by simp only [dkC, Wr.cells, bmt, eD, eS, eW, List.drop_succ_cons, List.drop_zero, List.take_succ_cons, List.take_zero, List.set_cons_zero, List.set_cons_succ]; rfl) ?_))
    | ((with_reducible refine gSt ?_); (first | (refine eSt H rfl rfl ⟨.int _ _, rfl, ?_⟩) | (refine eSt H rfl rfl ⟨.bool _, rfl, ?_⟩) | (refine eSt H rfl rfl ⟨.slice _ _ _, rfl, ?_⟩) | (refine eSt H rfl rfl ⟨.pointer _, rfl, ?_⟩) | (refine eSt H rfl rfl ⟨.string _, rfl, ?_⟩) | (refine eSt H rfl rfl ⟨.agg (List.toArray _), rfl, ?_⟩)); (first | (refine kSt 0 rfl rfl (by first | exact T3 | exact T4 | exact T9 | exact T23 | exact T27 | exact T31 | exact T33 | exact T45 | exact T37 | exact T41 | exact T50 | exact T52 | exact T69 | exact T72) rfl (Nat.le_of_ble_eq_true rfl) ?_) | (refine kStA 0 rfl rfl (by first | exact T3 | exact T4 | exact T9 | exact T23 | exact T27 | exact T31 | exact T33 | exact T45 | exact T37 | exact T41 | exact T50 | exact T52 | exact T69 | exact T72) rfl rfl (Nat.le_of_ble_eq_true rfl) ?_)); clear H; intro w1 H; simp only [List.set_cons_zero, List.set_cons_succ] at H; (try simp only [lay, List.take_zero, List.nil_append, List.length_cons, List.length_nil, Nat.zero_add, Nat.reduceAdd, List.drop_succ_cons, List.drop_zero, List.drop_nil, List.append_nil, List.take_succ_cons, List.cons_append] at H))
    | ((with_reducible refine gBx ?_); refine bxA H rfl rfl rfl ?_; clear H; intro b1 w1 H)
    | ((with_reducible refine gBs ?_); (first | (refine bs1 H rfl (by first | exact S33 | exact S45 | exact S31) rfl (Nat.le_of_ble_eq_true rfl) (Nat.le_of_ble_eq_true rfl) rfl ?_) | (refine wl_buildSlice0 rfl (by first | exact S33 | exact S45 | exact S31) H ?_)); clear H; intro b1 w1 H)
    | ((with_reducible refine gEq ?_); (first | (refine wl_cmp rfl rfl rfl rfl ?_) | (refine wl_scmp rfl rfl rfl rfl ?_)); intro rb hrb; cases rb <;> (first | (exfalso; simp at hrb; done) | ((try simp only [decide_eq_true_eq, decide_eq_false_iff_not, beq_iff_eq, beq_eq_false_iff_ne, ne_eq, bne_iff_ne, bne_eq_false_iff_eq, Bool.not_eq_true', Bool.not_eq_false', gt_iff_lt, ge_iff_le, Int.not_lt, Int.not_le, Decidable.not_not] at hrb); (try subst hrb); (try (exfalso; omega)))))
    | ((with_reducible refine gAl ?_); (first | (refine al H Z50 rfl rfl ?_) | (refine al H Z41 rfl rfl ?_)); clear H; intro b1 w1 H)
    | ((with_reducible refine gRg ?_); refine wp_region_text rfl (by decide +kernel) ?_; replace H := H.drew)
    | ((with_reducible refine EndQ.intro ?_ ?_); (· kernel_rfl)))
  all_goals exact end_none rfl ⟨rfl, H⟩
set_option maxHeartbeats 4000000 in
theorem WriteN {w0 w : World} {D : Nat → Prop} {R : List Ent}  (H : Hp w0 D (R) w)  :
    Calls Try.prog 15 #[.pointer none, .int .i64 0, .string ⟨#[]⟩] w fun e w' => e = .returned (.int .i64 7) ∧ Hp w0 D R w' := by
  try simp only [dkC, Wr.cells, bmt, eD, eS, eW] at H
  go_enter Try.func15, Try.ntmps15
  go_wp2_with (first
    | ((with_reducible refine gLd ?_); refine eLd H rfl rfl ?_; first | (refine kLd 0 rfl rfl (by first | exact T3 | exact T4 | exact T9 | exact T23 | exact T27 | exact T31 | exact T33 | exact T45 | exact T37 | exact T41 | exact T50 | exact T52 | exact T69 | exact T72) rfl ?_) | (refine kLdA 0 rfl rfl (by first | exact T3 | exact T4 | exact T9 | exact T23 | exact T27 | exact T31 | exact T33 | exact T45 | exact T37 | exact T41 | exact T50 | exact T52 | exact T69 | exact T72) (Nat.le_of_ble_eq_true rfl) (by simp only [dkC, Wr.cells, bmt, eD, eS, eW, List.drop_succ_cons, List.drop_zero, List.take_succ_cons, List.take_zero, List.set_cons_zero, List.set_cons_succ]; rfl) ?_))
    | ((with_reducible refine gSt ?_); (first | (refine eSt H rfl rfl ⟨.int _ _, rfl, ?_⟩) | (refine eSt H rfl rfl ⟨.bool _, rfl, ?_⟩) | (refine eSt H rfl rfl ⟨.slice _ _ _, rfl, ?_⟩) | (refine eSt H rfl rfl ⟨.pointer _, rfl, ?_⟩) | (refine eSt H rfl rfl ⟨.string _, rfl, ?_⟩) | (refine eSt H rfl rfl ⟨.agg (List.toArray _), rfl, ?_⟩)); (first | (refine kSt 0 rfl rfl (by first | exact T3 | exact T4 | exact T9 | exact T23 | exact T27 | exact T31 | exact T33 | exact T45 | exact T37 | exact T41 | exact T50 | exact T52 | exact T69 | exact T72) rfl (Nat.le_of_ble_eq_true rfl) ?_) | (refine kStA 0 rfl rfl (by first | exact T3 | exact T4 | exact T9 | exact T23 | exact T27 | exact T31 | exact T33 | exact T45 | exact T37 | exact T41 | exact T50 | exact T52 | exact T69 | exact T72) rfl rfl (Nat.le_of_ble_eq_true rfl) ?_)); clear H; intro w1 H; simp only [List.set_cons_zero, List.set_cons_succ] at H; (try simp only [lay, List.take_zero, List.nil_append, List.length_cons, List.length_nil, Nat.zero_add, Nat.reduceAdd, List.drop_succ_cons, List.drop_zero, List.drop_nil, List.append_nil, List.take_succ_cons, List.cons_append] at H))
    | ((with_reducible refine gBx ?_); refine bxA H rfl rfl rfl ?_; clear H; intro b1 w1 H)
    | ((with_reducible refine gBs ?_); (first | (refine bs1 H rfl (by first | exact S33 | exact S45 | exact S31) rfl (Nat.le_of_ble_eq_true rfl) (Nat.le_of_ble_eq_true rfl) rfl ?_) | (refine wl_buildSlice0 rfl (by first | exact S33 | exact S45 | exact S31) H ?_)); clear H; intro b1 w1 H)
    | ((with_reducible refine gEq ?_); (first | (refine wl_cmp rfl rfl rfl rfl ?_) | (refine wl_scmp rfl rfl rfl rfl ?_)); intro rb hrb; cases rb <;> (first | (exfalso; simp at hrb; done) | ((try simp only [decide_eq_true_eq, decide_eq_false_iff_not, beq_iff_eq, beq_eq_false_iff_ne, ne_eq, bne_iff_ne, bne_eq_false_iff_eq, Bool.not_eq_true', Bool.not_eq_false', gt_iff_lt, ge_iff_le, Int.not_lt, Int.not_le, Decidable.not_not] at hrb); (try subst hrb); (try (exfalso; omega)))))
    | ((with_reducible refine gAl ?_); (first | (refine al H Z50 rfl rfl ?_) | (refine al H Z41 rfl rfl ?_)); clear H; intro b1 w1 H)
    | ((with_reducible refine gRg ?_); refine wp_region_text rfl (by decide +kernel) ?_; replace H := H.drew)
    | ((with_reducible refine EndQ.intro ?_ ?_); (· kernel_rfl)))
  all_goals (go_ret; exact ⟨rfl, H⟩)
set_option maxHeartbeats 4000000 in
theorem ArmN {w0 w : World} {D : Nat → Prop} {R : List Ent}  (H : Hp w0 D (R) w)  :
    Calls Try.prog 18 #[.pointer none, .int .i64 0] w fun e w' => e = .returned (.int .i64 7) ∧ Hp w0 D R w' := by
  try simp only [dkC, Wr.cells, bmt, eD, eS, eW] at H
  go_enter Try.func18, Try.ntmps18
  go_wp2_with (first
    | ((with_reducible refine gLd ?_); refine eLd H rfl rfl ?_; first | (refine kLd 0 rfl rfl (by first | exact T3 | exact T4 | exact T9 | exact T23 | exact T27 | exact T31 | exact T33 | exact T45 | exact T37 | exact T41 | exact T50 | exact T52 | exact T69 | exact T72) rfl ?_) | (refine kLdA 0 rfl rfl (by first | exact T3 | exact T4 | exact T9 | exact T23 | exact T27 | exact T31 | exact T33 | exact T45 | exact T37 | exact T41 | exact T50 | exact T52 | exact T69 | exact T72) (Nat.le_of_ble_eq_true rfl) (by simp only [dkC, Wr.cells, bmt, eD, eS, eW, List.drop_succ_cons, List.drop_zero, List.take_succ_cons, List.take_zero, List.set_cons_zero, List.set_cons_succ]; rfl) ?_))
    | ((with_reducible refine gSt ?_); (first | (refine eSt H rfl rfl ⟨.int _ _, rfl, ?_⟩) | (refine eSt H rfl rfl ⟨.bool _, rfl, ?_⟩) | (refine eSt H rfl rfl ⟨.slice _ _ _, rfl, ?_⟩) | (refine eSt H rfl rfl ⟨.pointer _, rfl, ?_⟩) | (refine eSt H rfl rfl ⟨.string _, rfl, ?_⟩) | (refine eSt H rfl rfl ⟨.agg (List.toArray _), rfl, ?_⟩)); (first | (refine kSt 0 rfl rfl (by first | exact T3 | exact T4 | exact T9 | exact T23 | exact T27 | exact T31 | exact T33 | exact T45 | exact T37 | exact T41 | exact T50 | exact T52 | exact T69 | exact T72) rfl (Nat.le_of_ble_eq_true rfl) ?_) | (refine kStA 0 rfl rfl (by first | exact T3 | exact T4 | exact T9 | exact T23 | exact T27 | exact T31 | exact T33 | exact T45 | exact T37 | exact T41 | exact T50 | exact T52 | exact T69 | exact T72) rfl rfl (Nat.le_of_ble_eq_true rfl) ?_)); clear H; intro w1 H; simp only [List.set_cons_zero, List.set_cons_succ] at H; (try simp only [lay, List.take_zero, List.nil_append, List.length_cons, List.length_nil, Nat.zero_add, Nat.reduceAdd, List.drop_succ_cons, List.drop_zero, List.drop_nil, List.append_nil, List.take_succ_cons, List.cons_append] at H))
    | ((with_reducible refine gBx ?_); refine bxA H rfl rfl rfl ?_; clear H; intro b1 w1 H)
    | ((with_reducible refine gBs ?_); (first | (refine bs1 H rfl (by first | exact S33 | exact S45 | exact S31) rfl (Nat.le_of_ble_eq_true rfl) (Nat.le_of_ble_eq_true rfl) rfl ?_) | (refine wl_buildSlice0 rfl (by first | exact S33 | exact S45 | exact S31) H ?_)); clear H; intro b1 w1 H)
    | ((with_reducible refine gEq ?_); (first | (refine wl_cmp rfl rfl rfl rfl ?_) | (refine wl_scmp rfl rfl rfl rfl ?_)); intro rb hrb; cases rb <;> (first | (exfalso; simp at hrb; done) | ((try simp only [decide_eq_true_eq, decide_eq_false_iff_not, beq_iff_eq, beq_eq_false_iff_ne, ne_eq, bne_iff_ne, bne_eq_false_iff_eq, Bool.not_eq_true', Bool.not_eq_false', gt_iff_lt, ge_iff_le, Int.not_lt, Int.not_le, Decidable.not_not] at hrb); (try subst hrb); (try (exfalso; omega)))))
    | ((with_reducible refine gAl ?_); (first | (refine al H Z50 rfl rfl ?_) | (refine al H Z41 rfl rfl ?_)); clear H; intro b1 w1 H)
    | ((with_reducible refine gRg ?_); refine wp_region_text rfl (by decide +kernel) ?_; replace H := H.drew)
    | ((with_reducible refine EndQ.intro ?_ ?_); (· kernel_rfl)))
  all_goals (go_ret; exact ⟨rfl, H⟩)
set_option maxHeartbeats 4000000 in
theorem BlocksN {w0 w : World} {D : Nat → Prop} {R : List Ent}  (H : Hp w0 D (R) w)  :
    Calls Try.prog 16 #[.pointer none] w fun e w' => e = .returned (.int .i64 0) ∧ Hp w0 D R w' := by
  try simp only [dkC, Wr.cells, bmt, eD, eS, eW] at H
  go_enter Try.func16, Try.ntmps16
  go_wp2_with (first
    | ((with_reducible refine gLd ?_); refine eLd H rfl rfl ?_; first | (refine kLd 0 rfl rfl (by first | exact T3 | exact T4 | exact T9 | exact T23 | exact T27 | exact T31 | exact T33 | exact T45 | exact T37 | exact T41 | exact T50 | exact T52 | exact T69 | exact T72) rfl ?_) | (refine kLdA 0 rfl rfl (by first | exact T3 | exact T4 | exact T9 | exact T23 | exact T27 | exact T31 | exact T33 | exact T45 | exact T37 | exact T41 | exact T50 | exact T52 | exact T69 | exact T72) (Nat.le_of_ble_eq_true rfl) (by simp only [dkC, Wr.cells, bmt, eD, eS, eW, List.drop_succ_cons, List.drop_zero, List.take_succ_cons, List.take_zero, List.set_cons_zero, List.set_cons_succ]; rfl) ?_))
    | ((with_reducible refine gSt ?_); (first | (refine eSt H rfl rfl ⟨.int _ _, rfl, ?_⟩) | (refine eSt H rfl rfl ⟨.bool _, rfl, ?_⟩) | (refine eSt H rfl rfl ⟨.slice _ _ _, rfl, ?_⟩) | (refine eSt H rfl rfl ⟨.pointer _, rfl, ?_⟩) | (refine eSt H rfl rfl ⟨.string _, rfl, ?_⟩) | (refine eSt H rfl rfl ⟨.agg (List.toArray _), rfl, ?_⟩)); (first | (refine kSt 0 rfl rfl (by first | exact T3 | exact T4 | exact T9 | exact T23 | exact T27 | exact T31 | exact T33 | exact T45 | exact T37 | exact T41 | exact T50 | exact T52 | exact T69 | exact T72) rfl (Nat.le_of_ble_eq_true rfl) ?_) | (refine kStA 0 rfl rfl (by first | exact T3 | exact T4 | exact T9 | exact T23 | exact T27 | exact T31 | exact T33 | exact T45 | exact T37 | exact T41 | exact T50 | exact T52 | exact T69 | exact T72) rfl rfl (Nat.le_of_ble_eq_true rfl) ?_)); clear H; intro w1 H; simp only [List.set_cons_zero, List.set_cons_succ] at H; (try simp only [lay, List.take_zero, List.nil_append, List.length_cons, List.length_nil, Nat.zero_add, Nat.reduceAdd, List.drop_succ_cons, List.drop_zero, List.drop_nil, List.append_nil, List.take_succ_cons, List.cons_append] at H))
    | ((with_reducible refine gBx ?_); refine bxA H rfl rfl rfl ?_; clear H; intro b1 w1 H)
    | ((with_reducible refine gBs ?_); (first | (refine bs1 H rfl (by first | exact S33 | exact S45 | exact S31) rfl (Nat.le_of_ble_eq_true rfl) (Nat.le_of_ble_eq_true rfl) rfl ?_) | (refine wl_buildSlice0 rfl (by first | exact S33 | exact S45 | exact S31) H ?_)); clear H; intro b1 w1 H)
    | ((with_reducible refine gEq ?_); (first | (refine wl_cmp rfl rfl rfl rfl ?_) | (refine wl_scmp rfl rfl rfl rfl ?_)); intro rb hrb; cases rb <;> (first | (exfalso; simp at hrb; done) | ((try simp only [decide_eq_true_eq, decide_eq_false_iff_not, beq_iff_eq, beq_eq_false_iff_ne, ne_eq, bne_iff_ne, bne_eq_false_iff_eq, Bool.not_eq_true', Bool.not_eq_false', gt_iff_lt, ge_iff_le, Int.not_lt, Int.not_le, Decidable.not_not] at hrb); (try subst hrb); (try (exfalso; omega)))))
    | ((with_reducible refine gAl ?_); (first | (refine al H Z50 rfl rfl ?_) | (refine al H Z41 rfl rfl ?_)); clear H; intro b1 w1 H)
    | ((with_reducible refine gRg ?_); refine wp_region_text rfl (by decide +kernel) ?_; replace H := H.drew)
    | ((with_reducible refine EndQ.intro ?_ ?_); (· kernel_rfl)))
  all_goals (go_ret; exact ⟨rfl, H⟩)
set_option maxHeartbeats 4000000 in
theorem WritesN {w0 w : World} {D : Nat → Prop} {R : List Ent}  (H : Hp w0 D (R) w)  :
    Calls Try.prog 19 #[.pointer none] w fun e w' => e = .returned (.int .i64 0) ∧ Hp w0 D R w' := by
  try simp only [dkC, Wr.cells, bmt, eD, eS, eW] at H
  go_enter Try.func19, Try.ntmps19
  go_wp2_with (first
    | ((with_reducible refine gLd ?_); refine eLd H rfl rfl ?_; first | (refine kLd 0 rfl rfl (by first | exact T3 | exact T4 | exact T9 | exact T23 | exact T27 | exact T31 | exact T33 | exact T45 | exact T37 | exact T41 | exact T50 | exact T52 | exact T69 | exact T72) rfl ?_) | (refine kLdA 0 rfl rfl (by first | exact T3 | exact T4 | exact T9 | exact T23 | exact T27 | exact T31 | exact T33 | exact T45 | exact T37 | exact T41 | exact T50 | exact T52 | exact T69 | exact T72) (Nat.le_of_ble_eq_true rfl) (by simp only [dkC, Wr.cells, bmt, eD, eS, eW, List.drop_succ_cons, List.drop_zero, List.take_succ_cons, List.take_zero, List.set_cons_zero, List.set_cons_succ]; rfl) ?_))
    | ((with_reducible refine gSt ?_); (first | (refine eSt H rfl rfl ⟨.int _ _, rfl, ?_⟩) | (refine eSt H rfl rfl ⟨.bool _, rfl, ?_⟩) | (refine eSt H rfl rfl ⟨.slice _ _ _, rfl, ?_⟩) | (refine eSt H rfl rfl ⟨.pointer _, rfl, ?_⟩) | (refine eSt H rfl rfl ⟨.string _, rfl, ?_⟩) | (refine eSt H rfl rfl ⟨.agg (List.toArray _), rfl, ?_⟩)); (first | (refine kSt 0 rfl rfl (by first | exact T3 | exact T4 | exact T9 | exact T23 | exact T27 | exact T31 | exact T33 | exact T45 | exact T37 | exact T41 | exact T50 | exact T52 | exact T69 | exact T72) rfl (Nat.le_of_ble_eq_true rfl) ?_) | (refine kStA 0 rfl rfl (by first | exact T3 | exact T4 | exact T9 | exact T23 | exact T27 | exact T31 | exact T33 | exact T45 | exact T37 | exact T41 | exact T50 | exact T52 | exact T69 | exact T72) rfl rfl (Nat.le_of_ble_eq_true rfl) ?_)); clear H; intro w1 H; simp only [List.set_cons_zero, List.set_cons_succ] at H; (try simp only [lay, List.take_zero, List.nil_append, List.length_cons, List.length_nil, Nat.zero_add, Nat.reduceAdd, List.drop_succ_cons, List.drop_zero, List.drop_nil, List.append_nil, List.take_succ_cons, List.cons_append] at H))
    | ((with_reducible refine gBx ?_); refine bxA H rfl rfl rfl ?_; clear H; intro b1 w1 H)
    | ((with_reducible refine gBs ?_); (first | (refine bs1 H rfl (by first | exact S33 | exact S45 | exact S31) rfl (Nat.le_of_ble_eq_true rfl) (Nat.le_of_ble_eq_true rfl) rfl ?_) | (refine wl_buildSlice0 rfl (by first | exact S33 | exact S45 | exact S31) H ?_)); clear H; intro b1 w1 H)
    | ((with_reducible refine gEq ?_); (first | (refine wl_cmp rfl rfl rfl rfl ?_) | (refine wl_scmp rfl rfl rfl rfl ?_)); intro rb hrb; cases rb <;> (first | (exfalso; simp at hrb; done) | ((try simp only [decide_eq_true_eq, decide_eq_false_iff_not, beq_iff_eq, beq_eq_false_iff_ne, ne_eq, bne_iff_ne, bne_eq_false_iff_eq, Bool.not_eq_true', Bool.not_eq_false', gt_iff_lt, ge_iff_le, Int.not_lt, Int.not_le, Decidable.not_not] at hrb); (try subst hrb); (try (exfalso; omega)))))
    | ((with_reducible refine gAl ?_); (first | (refine al H Z50 rfl rfl ?_) | (refine al H Z41 rfl rfl ?_)); clear H; intro b1 w1 H)
    | ((with_reducible refine gRg ?_); refine wp_region_text rfl (by decide +kernel) ?_; replace H := H.drew)
    | ((with_reducible refine EndQ.intro ?_ ?_); (· kernel_rfl)))
  all_goals (go_ret; exact ⟨rfl, H⟩)
set_option maxHeartbeats 4000000 in
theorem DeadN {w0 w : World} {D : Nat → Prop} {R : List Ent}  (H : Hp w0 D (R) w)  :
    Calls Try.prog 26 #[.pointer none] w fun e w' => e = .returned (.bool false) ∧ Hp w0 D R w' := by
  try simp only [dkC, Wr.cells, bmt, eD, eS, eW] at H
  go_enter Try.func26, Try.ntmps26
  go_wp2_with (first
    | ((with_reducible refine gLd ?_); refine eLd H rfl rfl ?_; first | (refine kLd 0 rfl rfl (by first | exact T3 | exact T4 | exact T9 | exact T23 | exact T27 | exact T31 | exact T33 | exact T45 | exact T37 | exact T41 | exact T50 | exact T52 | exact T69 | exact T72) rfl ?_) | (refine kLdA 0 rfl rfl (by first | exact T3 | exact T4 | exact T9 | exact T23 | exact T27 | exact T31 | exact T33 | exact T45 | exact T37 | exact T41 | exact T50 | exact T52 | exact T69 | exact T72) (Nat.le_of_ble_eq_true rfl) (by simp only [dkC, Wr.cells, bmt, eD, eS, eW, List.drop_succ_cons, List.drop_zero, List.take_succ_cons, List.take_zero, List.set_cons_zero, List.set_cons_succ]; rfl) ?_))
    | ((with_reducible refine gSt ?_); (first | (refine eSt H rfl rfl ⟨.int _ _, rfl, ?_⟩) | (refine eSt H rfl rfl ⟨.bool _, rfl, ?_⟩) | (refine eSt H rfl rfl ⟨.slice _ _ _, rfl, ?_⟩) | (refine eSt H rfl rfl ⟨.pointer _, rfl, ?_⟩) | (refine eSt H rfl rfl ⟨.string _, rfl, ?_⟩) | (refine eSt H rfl rfl ⟨.agg (List.toArray _), rfl, ?_⟩)); (first | (refine kSt 0 rfl rfl (by first | exact T3 | exact T4 | exact T9 | exact T23 | exact T27 | exact T31 | exact T33 | exact T45 | exact T37 | exact T41 | exact T50 | exact T52 | exact T69 | exact T72) rfl (Nat.le_of_ble_eq_true rfl) ?_) | (refine kStA 0 rfl rfl (by first | exact T3 | exact T4 | exact T9 | exact T23 | exact T27 | exact T31 | exact T33 | exact T45 | exact T37 | exact T41 | exact T50 | exact T52 | exact T69 | exact T72) rfl rfl (Nat.le_of_ble_eq_true rfl) ?_)); clear H; intro w1 H; simp only [List.set_cons_zero, List.set_cons_succ] at H; (try simp only [lay, List.take_zero, List.nil_append, List.length_cons, List.length_nil, Nat.zero_add, Nat.reduceAdd, List.drop_succ_cons, List.drop_zero, List.drop_nil, List.append_nil, List.take_succ_cons, List.cons_append] at H))
    | ((with_reducible refine gBx ?_); refine bxA H rfl rfl rfl ?_; clear H; intro b1 w1 H)
    | ((with_reducible refine gBs ?_); (first | (refine bs1 H rfl (by first | exact S33 | exact S45 | exact S31) rfl (Nat.le_of_ble_eq_true rfl) (Nat.le_of_ble_eq_true rfl) rfl ?_) | (refine wl_buildSlice0 rfl (by first | exact S33 | exact S45 | exact S31) H ?_)); clear H; intro b1 w1 H)
    | ((with_reducible refine gEq ?_); (first | (refine wl_cmp rfl rfl rfl rfl ?_) | (refine wl_scmp rfl rfl rfl rfl ?_)); intro rb hrb; cases rb <;> (first | (exfalso; simp at hrb; done) | ((try simp only [decide_eq_true_eq, decide_eq_false_iff_not, beq_iff_eq, beq_eq_false_iff_ne, ne_eq, bne_iff_ne, bne_eq_false_iff_eq, Bool.not_eq_true', Bool.not_eq_false', gt_iff_lt, ge_iff_le, Int.not_lt, Int.not_le, Decidable.not_not] at hrb); (try subst hrb); (try (exfalso; omega)))))
    | ((with_reducible refine gAl ?_); (first | (refine al H Z50 rfl rfl ?_) | (refine al H Z41 rfl rfl ?_)); clear H; intro b1 w1 H)
    | ((with_reducible refine gRg ?_); refine wp_region_text rfl (by decide +kernel) ?_; replace H := H.drew)
    | ((with_reducible refine EndQ.intro ?_ ?_); (· kernel_rfl)))
  all_goals (go_ret; exact ⟨rfl, H⟩)
set_option maxHeartbeats 4000000 in
theorem ImageN {w0 w : World} {D : Nat → Prop} {R : List Ent}  (H : Hp w0 D (R) w)  :
    Calls Try.prog 25 #[.pointer none] w fun e w' => e = .returned (.slice none 0 0) ∧ Hp w0 D R w' := by
  try simp only [dkC, Wr.cells, bmt, eD, eS, eW] at H
  go_enter Try.func25, Try.ntmps25
  go_wp2_with (first
    | ((with_reducible refine gLd ?_); refine eLd H rfl rfl ?_; first | (refine kLd 0 rfl rfl (by first | exact T3 | exact T4 | exact T9 | exact T23 | exact T27 | exact T31 | exact T33 | exact T45 | exact T37 | exact T41 | exact T50 | exact T52 | exact T69 | exact T72) rfl ?_) | (refine kLdA 0 rfl rfl (by first | exact T3 | exact T4 | exact T9 | exact T23 | exact T27 | exact T31 | exact T33 | exact T45 | exact T37 | exact T41 | exact T50 | exact T52 | exact T69 | exact T72) (Nat.le_of_ble_eq_true rfl) (by simp only [dkC, Wr.cells, bmt, eD, eS, eW, List.drop_succ_cons, List.drop_zero, List.take_succ_cons, List.take_zero, List.set_cons_zero, List.set_cons_succ]; rfl) ?_))
    | ((with_reducible refine gSt ?_); (first | (refine eSt H rfl rfl ⟨.int _ _, rfl, ?_⟩) | (refine eSt H rfl rfl ⟨.bool _, rfl, ?_⟩) | (refine eSt H rfl rfl ⟨.slice _ _ _, rfl, ?_⟩) | (refine eSt H rfl rfl ⟨.pointer _, rfl, ?_⟩) | (refine eSt H rfl rfl ⟨.string _, rfl, ?_⟩) | (refine eSt H rfl rfl ⟨.agg (List.toArray _), rfl, ?_⟩)); (first | (refine kSt 0 rfl rfl (by first | exact T3 | exact T4 | exact T9 | exact T23 | exact T27 | exact T31 | exact T33 | exact T45 | exact T37 | exact T41 | exact T50 | exact T52 | exact T69 | exact T72) rfl (Nat.le_of_ble_eq_true rfl) ?_) | (refine kStA 0 rfl rfl (by first | exact T3 | exact T4 | exact T9 | exact T23 | exact T27 | exact T31 | exact T33 | exact T45 | exact T37 | exact T41 | exact T50 | exact T52 | exact T69 | exact T72) rfl rfl (Nat.le_of_ble_eq_true rfl) ?_)); clear H; intro w1 H; simp only [List.set_cons_zero, List.set_cons_succ] at H; (try simp only [lay, List.take_zero, List.nil_append, List.length_cons, List.length_nil, Nat.zero_add, Nat.reduceAdd, List.drop_succ_cons, List.drop_zero, List.drop_nil, List.append_nil, List.take_succ_cons, List.cons_append] at H))
    | ((with_reducible refine gBx ?_); refine bxA H rfl rfl rfl ?_; clear H; intro b1 w1 H)
    | ((with_reducible refine gBs ?_); (first | (refine bs1 H rfl (by first | exact S33 | exact S45 | exact S31) rfl (Nat.le_of_ble_eq_true rfl) (Nat.le_of_ble_eq_true rfl) rfl ?_) | (refine wl_buildSlice0 rfl (by first | exact S33 | exact S45 | exact S31) H ?_)); clear H; intro b1 w1 H)
    | ((with_reducible refine gEq ?_); (first | (refine wl_cmp rfl rfl rfl rfl ?_) | (refine wl_scmp rfl rfl rfl rfl ?_)); intro rb hrb; cases rb <;> (first | (exfalso; simp at hrb; done) | ((try simp only [decide_eq_true_eq, decide_eq_false_iff_not, beq_iff_eq, beq_eq_false_iff_ne, ne_eq, bne_iff_ne, bne_eq_false_iff_eq, Bool.not_eq_true', Bool.not_eq_false', gt_iff_lt, ge_iff_le, Int.not_lt, Int.not_le, Decidable.not_not] at hrb); (try subst hrb); (try (exfalso; omega)))))
    | ((with_reducible refine gAl ?_); (first | (refine al H Z50 rfl rfl ?_) | (refine al H Z41 rfl rfl ?_)); clear H; intro b1 w1 H)
    | ((with_reducible refine gRg ?_); refine wp_region_text rfl (by decide +kernel) ?_; replace H := H.drew)
    | ((with_reducible refine EndQ.intro ?_ ?_); (· kernel_rfl)))
  all_goals (go_ret; exact ⟨rfl, H⟩)
set_option maxHeartbeats 4000000 in
theorem LogN {w0 w : World} {D : Nat → Prop} {R : List Ent}  (H : Hp w0 D (R) w)  :
    Calls Try.prog 22 #[.pointer none] w fun e w' => e = .returned (.slice none 0 0) ∧ Hp w0 D R w' := by
  try simp only [dkC, Wr.cells, bmt, eD, eS, eW] at H
  go_enter Try.func22, Try.ntmps22
  go_wp2_with (first
    | ((with_reducible refine gLd ?_); refine eLd H rfl rfl ?_; first | (refine kLd 0 rfl rfl (by first | exact T3 | exact T4 | exact T9 | exact T23 | exact T27 | exact T31 | exact T33 | exact T45 | exact T37 | exact T41 | exact T50 | exact T52 | exact T69 | exact T72) rfl ?_) | (refine kLdA 0 rfl rfl (by first | exact T3 | exact T4 | exact T9 | exact T23 | exact T27 | exact T31 | exact T33 | exact T45 | exact T37 | exact T41 | exact T50 | exact T52 | exact T69 | exact T72) (Nat.le_of_ble_eq_true rfl) (by simp only [dkC, Wr.cells, bmt, eD, eS, eW, List.drop_succ_cons, List.drop_zero, List.take_succ_cons, List.take_zero, List.set_cons_zero, List.set_cons_succ]; rfl) ?_))
    | ((with_reducible refine gSt ?_); (first | (refine eSt H rfl rfl ⟨.int _ _, rfl, ?_⟩) | (refine eSt H rfl rfl ⟨.bool _, rfl, ?_⟩) | (refine eSt H rfl rfl ⟨.slice _ _ _, rfl, ?_⟩) | (refine eSt H rfl rfl ⟨.pointer _, rfl, ?_⟩) | (refine eSt H rfl rfl ⟨.string _, rfl, ?_⟩) | (refine eSt H rfl rfl ⟨.agg (List.toArray _), rfl, ?_⟩)); (first | (refine kSt 0 rfl rfl (by first | exact T3 | exact T4 | exact T9 | exact T23 | exact T27 | exact T31 | exact T33 | exact T45 | exact T37 | exact T41 | exact T50 | exact T52 | exact T69 | exact T72) rfl (Nat.le_of_ble_eq_true rfl) ?_) | (refine kStA 0 rfl rfl (by first | exact T3 | exact T4 | exact T9 | exact T23 | exact T27 | exact T31 | exact T33 | exact T45 | exact T37 | exact T41 | exact T50 | exact T52 | exact T69 | exact T72) rfl rfl (Nat.le_of_ble_eq_true rfl) ?_)); clear H; intro w1 H; simp only [List.set_cons_zero, List.set_cons_succ] at H; (try simp only [lay, List.take_zero, List.nil_append, List.length_cons, List.length_nil, Nat.zero_add, Nat.reduceAdd, List.drop_succ_cons, List.drop_zero, List.drop_nil, List.append_nil, List.take_succ_cons, List.cons_append] at H))
    | ((with_reducible refine gBx ?_); refine bxA H rfl rfl rfl ?_; clear H; intro b1 w1 H)
    | ((with_reducible refine gBs ?_); (first | (refine bs1 H rfl (by first | exact S33 | exact S45 | exact S31) rfl (Nat.le_of_ble_eq_true rfl) (Nat.le_of_ble_eq_true rfl) rfl ?_) | (refine wl_buildSlice0 rfl (by first | exact S33 | exact S45 | exact S31) H ?_)); clear H; intro b1 w1 H)
    | ((with_reducible refine gEq ?_); (first | (refine wl_cmp rfl rfl rfl rfl ?_) | (refine wl_scmp rfl rfl rfl rfl ?_)); intro rb hrb; cases rb <;> (first | (exfalso; simp at hrb; done) | ((try simp only [decide_eq_true_eq, decide_eq_false_iff_not, beq_iff_eq, beq_eq_false_iff_ne, ne_eq, bne_iff_ne, bne_eq_false_iff_eq, Bool.not_eq_true', Bool.not_eq_false', gt_iff_lt, ge_iff_le, Int.not_lt, Int.not_le, Decidable.not_not] at hrb); (try subst hrb); (try (exfalso; omega)))))
    | ((with_reducible refine gAl ?_); (first | (refine al H Z50 rfl rfl ?_) | (refine al H Z41 rfl rfl ?_)); clear H; intro b1 w1 H)
    | ((with_reducible refine gRg ?_); refine wp_region_text rfl (by decide +kernel) ?_; replace H := H.drew)
    | ((with_reducible refine EndQ.intro ?_ ?_); (· kernel_rfl)))
  all_goals (go_ret; exact ⟨rfl, H⟩)
set_option maxHeartbeats 4000000 in
theorem CopyN {w0 w : World} {D : Nat → Prop} {R : List Ent}  (H : Hp w0 D (R) w)  :
    Calls Try.prog 35 #[.pointer none] w fun e w' => e = .returned (.pointer none) ∧ Hp w0 D R w' := by
  try simp only [dkC, Wr.cells, bmt, eD, eS, eW] at H
  go_enter Try.func35, Try.ntmps35
  go_wp2_with (first
    | ((with_reducible refine gLd ?_); refine eLd H rfl rfl ?_; first | (refine kLd 0 rfl rfl (by first | exact T3 | exact T4 | exact T9 | exact T23 | exact T27 | exact T31 | exact T33 | exact T45 | exact T37 | exact T41 | exact T50 | exact T52 | exact T69 | exact T72) rfl ?_) | (refine kLdA 0 rfl rfl (by first | exact T3 | exact T4 | exact T9 | exact T23 | exact T27 | exact T31 | exact T33 | exact T45 | exact T37 | exact T41 | exact T50 | exact T52 | exact T69 | exact T72) (Nat.le_of_ble_eq_true rfl) (by simp only [dkC, Wr.cells, bmt, eD, eS, eW, List.drop_succ_cons, List.drop_zero, List.take_succ_cons, List.take_zero, List.set_cons_zero, List.set_cons_succ]; rfl) ?_))
    | ((with_reducible refine gSt ?_); (first | (refine eSt H rfl rfl ⟨.int _ _, rfl, ?_⟩) | (refine eSt H rfl rfl ⟨.bool _, rfl, ?_⟩) | (refine eSt H rfl rfl ⟨.slice _ _ _, rfl, ?_⟩) | (refine eSt H rfl rfl ⟨.pointer _, rfl, ?_⟩) | (refine eSt H rfl rfl ⟨.string _, rfl, ?_⟩) | (refine eSt H rfl rfl ⟨.agg (List.toArray _), rfl, ?_⟩)); (first | (refine kSt 0 rfl rfl (by first | exact T3 | exact T4 | exact T9 | exact T23 | exact T27 | exact T31 | exact T33 | exact T45 | exact T37 | exact T41 | exact T50 | exact T52 | exact T69 | exact T72) rfl (Nat.le_of_ble_eq_true rfl) ?_) | (refine kStA 0 rfl rfl (by first | exact T3 | exact T4 | exact T9 | exact T23 | exact T27 | exact T31 | exact T33 | exact T45 | exact T37 | exact T41 | exact T50 | exact T52 | exact T69 | exact T72) rfl rfl (Nat.le_of_ble_eq_true rfl) ?_)); clear H; intro w1 H; simp only [List.set_cons_zero, List.set_cons_succ] at H; (try simp only [lay, List.take_zero, List.nil_append, List.length_cons, List.length_nil, Nat.zero_add, Nat.reduceAdd, List.drop_succ_cons, List.drop_zero, List.drop_nil, List.append_nil, List.take_succ_cons, List.cons_append] at H))
    | ((with_reducible refine gBx ?_); refine bxA H rfl rfl rfl ?_; clear H; intro b1 w1 H)
    | ((with_reducible refine gBs ?_); (first | (refine bs1 H rfl (by first | exact S33 | exact S45 | exact S31) rfl (Nat.le_of_ble_eq_true rfl) (Nat.le_of_ble_eq_true rfl) rfl ?_) | (refine wl_buildSlice0 rfl (by first | exact S33 | exact S45 | exact S31) H ?_)); clear H; intro b1 w1 H)
    | ((with_reducible refine gEq ?_); (first | (refine wl_cmp rfl rfl rfl rfl ?_) | (refine wl_scmp rfl rfl rfl rfl ?_)); intro rb hrb; cases rb <;> (first | (exfalso; simp at hrb; done) | ((try simp only [decide_eq_true_eq, decide_eq_false_iff_not, beq_iff_eq, beq_eq_false_iff_ne, ne_eq, bne_iff_ne, bne_eq_false_iff_eq, Bool.not_eq_true', Bool.not_eq_false', gt_iff_lt, ge_iff_le, Int.not_lt, Int.not_le, Decidable.not_not] at hrb); (try subst hrb); (try (exfalso; omega)))))
    | ((with_reducible refine gAl ?_); (first | (refine al H Z50 rfl rfl ?_) | (refine al H Z41 rfl rfl ?_)); clear H; intro b1 w1 H)
    | ((with_reducible refine gRg ?_); refine wp_region_text rfl (by decide +kernel) ?_; replace H := H.drew)
    | ((with_reducible refine EndQ.intro ?_ ?_); (· kernel_rfl)))
  all_goals (go_ret; exact ⟨rfl, H⟩)
set_option maxHeartbeats 4000000 in
theorem SameNN {w0 w : World} {D : Nat → Prop} {R : List Ent}  (H : Hp w0 D (R) w)  :
    Calls Try.prog 20 #[.pointer none, .pointer none] w fun e w' => e = .returned (.bool true) ∧ Hp w0 D R w' := by
  try simp only [dkC, Wr.cells, bmt, eD, eS, eW] at H
  go_enter Try.func20, Try.ntmps20
  go_wp2_with (first
    | ((with_reducible refine gEq ?_); refine wl_eqp rfl rfl rfl ?_)
    | ((with_reducible refine gLd ?_); refine eLd H rfl rfl ?_; first | (refine kLd 0 rfl rfl (by first | exact T3 | exact T4 | exact T9 | exact T23 | exact T27 | exact T31 | exact T33 | exact T45 | exact T37 | exact T41 | exact T50 | exact T52 | exact T69 | exact T72) rfl ?_) | (refine kLdA 0 rfl rfl (by first | exact T3 | exact T4 | exact T9 | exact T23 | exact T27 | exact T31 | exact T33 | exact T45 | exact T37 | exact T41 | exact T50 | exact T52 | exact T69 | exact T72) (Nat.le_of_ble_eq_true rfl) (by simp only [dkC, Wr.cells, bmt, eD, eS, eW, List.drop_succ_cons, List.drop_zero, List.take_succ_cons, List.take_zero, List.set_cons_zero, List.set_cons_succ]; rfl) ?_))
    | ((with_reducible refine gSt ?_); (first | (refine eSt H rfl rfl ⟨.int _ _, rfl, ?_⟩) | (refine eSt H rfl rfl ⟨.bool _, rfl, ?_⟩) | (refine eSt H rfl rfl ⟨.slice _ _ _, rfl, ?_⟩) | (refine eSt H rfl rfl ⟨.pointer _, rfl, ?_⟩) | (refine eSt H rfl rfl ⟨.string _, rfl, ?_⟩) | (refine eSt H rfl rfl ⟨.agg (List.toArray _), rfl, ?_⟩)); (first | (refine kSt 0 rfl rfl (by first | exact T3 | exact T4 | exact T9 | exact T23 | exact T27 | exact T31 | exact T33 | exact T45 | exact T37 | exact T41 | exact T50 | exact T52 | exact T69 | exact T72) rfl (Nat.le_of_ble_eq_true rfl) ?_) | (refine kStA 0 rfl rfl (by first | exact T3 | exact T4 | exact T9 | exact T23 | exact T27 | exact T31 | exact T33 | exact T45 | exact T37 | exact T41 | exact T50 | exact T52 | exact T69 | exact T72) rfl rfl (Nat.le_of_ble_eq_true rfl) ?_)); clear H; intro w1 H; simp only [List.set_cons_zero, List.set_cons_succ] at H; (try simp only [lay, List.take_zero, List.nil_append, List.length_cons, List.length_nil, Nat.zero_add, Nat.reduceAdd, List.drop_succ_cons, List.drop_zero, List.drop_nil, List.append_nil, List.take_succ_cons, List.cons_append] at H))
    | ((with_reducible refine gBx ?_); refine bxA H rfl rfl rfl ?_; clear H; intro b1 w1 H)
    | ((with_reducible refine gBs ?_); (first | (refine bs1 H rfl (by first | exact S33 | exact S45 | exact S31) rfl (Nat.le_of_ble_eq_true rfl) (Nat.le_of_ble_eq_true rfl) rfl ?_) | (refine wl_buildSlice0 rfl (by first | exact S33 | exact S45 | exact S31) H ?_)); clear H; intro b1 w1 H)
    | ((with_reducible refine gEq ?_); (first | (refine wl_cmp rfl rfl rfl rfl ?_) | (refine wl_scmp rfl rfl rfl rfl ?_)); intro rb hrb; cases rb <;> (first | (exfalso; simp at hrb; done) | ((try simp only [decide_eq_true_eq, decide_eq_false_iff_not, beq_iff_eq, beq_eq_false_iff_ne, ne_eq, bne_iff_ne, bne_eq_false_iff_eq, Bool.not_eq_true', Bool.not_eq_false', gt_iff_lt, ge_iff_le, Int.not_lt, Int.not_le, Decidable.not_not] at hrb); (try subst hrb); (try (exfalso; omega)))))
    | ((with_reducible refine gAl ?_); (first | (refine al H Z50 rfl rfl ?_) | (refine al H Z41 rfl rfl ?_)); clear H; intro b1 w1 H)
    | ((with_reducible refine gRg ?_); refine wp_region_text rfl (by decide +kernel) ?_; replace H := H.drew)
    | ((with_reducible refine EndQ.intro ?_ ?_); (· kernel_rfl)))
  all_goals (go_ret; exact ⟨rfl, H⟩)
set_option maxHeartbeats 4000000 in
theorem SameNX {w0 w : World} {D : Nat → Prop} {R : List Ent} {p : Nat} (H : Hp w0 D (R) w)  :
    Calls Try.prog 20 #[.pointer none, .pointer (some ⟨p, 0, none⟩)] w fun e w' => e = .returned (.bool false) ∧ Hp w0 D R w' := by
  try simp only [dkC, Wr.cells, bmt, eD, eS, eW] at H
  go_enter Try.func20, Try.ntmps20
  go_wp2_with (first
    | ((with_reducible refine gEq ?_); refine wl_eqp rfl rfl rfl ?_)
    | ((with_reducible refine gLd ?_); refine eLd H rfl rfl ?_; first | (refine kLd 0 rfl rfl (by first | exact T3 | exact T4 | exact T9 | exact T23 | exact T27 | exact T31 | exact T33 | exact T45 | exact T37 | exact T41 | exact T50 | exact T52 | exact T69 | exact T72) rfl ?_) | (refine kLdA 0 rfl rfl (by first | exact T3 | exact T4 | exact T9 | exact T23 | exact T27 | exact T31 | exact T33 | exact T45 | exact T37 | exact T41 | exact T50 | exact T52 | exact T69 | exact T72) (Nat.le_of_ble_eq_true rfl) (by simp only [dkC, Wr.cells, bmt, eD, eS, eW, List.drop_succ_cons, List.drop_zero, List.take_succ_cons, List.take_zero, List.set_cons_zero, List.set_cons_succ]; rfl) ?_))
    | ((with_reducible refine gSt ?_); (first | (refine eSt H rfl rfl ⟨.int _ _, rfl, ?_⟩) | (refine eSt H rfl rfl ⟨.bool _, rfl, ?_⟩) | (refine eSt H rfl rfl ⟨.slice _ _ _, rfl, ?_⟩) | (refine eSt H rfl rfl ⟨.pointer _, rfl, ?_⟩) | (refine eSt H rfl rfl ⟨.string _, rfl, ?_⟩) | (refine eSt H rfl rfl ⟨.agg (List.toArray _), rfl, ?_⟩)); (first | (refine kSt 0 rfl rfl (by first | exact T3 | exact T4 | exact T9 | exact T23 | exact T27 | exact T31 | exact T33 | exact T45 | exact T37 | exact T41 | exact T50 | exact T52 | exact T69 | exact T72) rfl (Nat.le_of_ble_eq_true rfl) ?_) | (refine kStA 0 rfl rfl (by first | exact T3 | exact T4 | exact T9 | exact T23 | exact T27 | exact T31 | exact T33 | exact T45 | exact T37 | exact T41 | exact T50 | exact T52 | exact T69 | exact T72) rfl rfl (Nat.le_of_ble_eq_true rfl) ?_)); clear H; intro w1 H; simp only [List.set_cons_zero, List.set_cons_succ] at H; (try simp only [lay, List.take_zero, List.nil_append, List.length_cons, List.length_nil, Nat.zero_add, Nat.reduceAdd, List.drop_succ_cons, List.drop_zero, List.drop_nil, List.append_nil, List.take_succ_cons, List.cons_append] at H))
    | ((with_reducible refine gBx ?_); refine bxA H rfl rfl rfl ?_; clear H; intro b1 w1 H)
    | ((with_reducible refine gBs ?_); (first | (refine bs1 H rfl (by first | exact S33 | exact S45 | exact S31) rfl (Nat.le_of_ble_eq_true rfl) (Nat.le_of_ble_eq_true rfl) rfl ?_) | (refine wl_buildSlice0 rfl (by first | exact S33 | exact S45 | exact S31) H ?_)); clear H; intro b1 w1 H)
    | ((with_reducible refine gEq ?_); (first | (refine wl_cmp rfl rfl rfl rfl ?_) | (refine wl_scmp rfl rfl rfl rfl ?_)); intro rb hrb; cases rb <;> (first | (exfalso; simp at hrb; done) | ((try simp only [decide_eq_true_eq, decide_eq_false_iff_not, beq_iff_eq, beq_eq_false_iff_ne, ne_eq, bne_iff_ne, bne_eq_false_iff_eq, Bool.not_eq_true', Bool.not_eq_false', gt_iff_lt, ge_iff_le, Int.not_lt, Int.not_le, Decidable.not_not] at hrb); (try subst hrb); (try (exfalso; omega)))))
    | ((with_reducible refine gAl ?_); (first | (refine al H Z50 rfl rfl ?_) | (refine al H Z41 rfl rfl ?_)); clear H; intro b1 w1 H)
    | ((with_reducible refine gRg ?_); refine wp_region_text rfl (by decide +kernel) ?_; replace H := H.drew)
    | ((with_reducible refine EndQ.intro ?_ ?_); (· kernel_rfl)))
  all_goals (go_ret; exact ⟨rfl, H⟩)
set_option maxHeartbeats 4000000 in
theorem SameXN {w0 w : World} {D : Nat → Prop} {R : List Ent} {p : Nat} (H : Hp w0 D (R) w)  :
    Calls Try.prog 20 #[.pointer (some ⟨p, 0, none⟩), .pointer none] w fun e w' => e = .returned (.bool false) ∧ Hp w0 D R w' := by
  try simp only [dkC, Wr.cells, bmt, eD, eS, eW] at H
  go_enter Try.func20, Try.ntmps20
  go_wp2_with (first
    | ((with_reducible refine gEq ?_); refine wl_eqp rfl rfl rfl ?_)
    | ((with_reducible refine gLd ?_); refine eLd H rfl rfl ?_; first | (refine kLd 0 rfl rfl (by first | exact T3 | exact T4 | exact T9 | exact T23 | exact T27 | exact T31 | exact T33 | exact T45 | exact T37 | exact T41 | exact T50 | exact T52 | exact T69 | exact T72) rfl ?_) | (refine kLdA 0 rfl rfl (by first | exact T3 | exact T4 | exact T9 | exact T23 | exact T27 | exact T31 | exact T33 | exact T45 | exact T37 | exact T41 | exact T50 | exact T52 | exact T69 | exact T72) (Nat.le_of_ble_eq_true rfl) (by simp only [dkC, Wr.cells, bmt, eD, eS, eW, List.drop_succ_cons, List.drop_zero, List.take_succ_cons, List.take_zero, List.set_cons_zero, List.set_cons_succ]; rfl) ?_))
    | ((with_reducible refine gSt ?_); (first | (refine eSt H rfl rfl ⟨.int _ _, rfl, ?_⟩) | (refine eSt H rfl rfl ⟨.bool _, rfl, ?_⟩) | (refine eSt H rfl rfl ⟨.slice _ _ _, rfl, ?_⟩) | (refine eSt H rfl rfl ⟨.pointer _, rfl, ?_⟩) | (refine eSt H rfl rfl ⟨.string _, rfl, ?_⟩) | (refine eSt H rfl rfl ⟨.agg (List.toArray _), rfl, ?_⟩)); (first | (refine kSt 0 rfl rfl (by first | exact T3 | exact T4 | exact T9 | exact T23 | exact T27 | exact T31 | exact T33 | exact T45 | exact T37 | exact T41 | exact T50 | exact T52 | exact T69 | exact T72) rfl (Nat.le_of_ble_eq_true rfl) ?_) | (refine kStA 0 rfl rfl (by first | exact T3 | exact T4 | exact T9 | exact T23 | exact T27 | exact T31 | exact T33 | exact T45 | exact T37 | exact T41 | exact T50 | exact T52 | exact T69 | exact T72) rfl rfl (Nat.le_of_ble_eq_true rfl) ?_)); clear H; intro w1 H; simp only [List.set_cons_zero, List.set_cons_succ] at H; (try simp only [lay, List.take_zero, List.nil_append, List.length_cons, List.length_nil, Nat.zero_add, Nat.reduceAdd, List.drop_succ_cons, List.drop_zero, List.drop_nil, List.append_nil, List.take_succ_cons, List.cons_append] at H))
    | ((with_reducible refine gBx ?_); refine bxA H rfl rfl rfl ?_; clear H; intro b1 w1 H)
    | ((with_reducible refine gBs ?_); (first | (refine bs1 H rfl (by first | exact S33 | exact S45 | exact S31) rfl (Nat.le_of_ble_eq_true rfl) (Nat.le_of_ble_eq_true rfl) rfl ?_) | (refine wl_buildSlice0 rfl (by first | exact S33 | exact S45 | exact S31) H ?_)); clear H; intro b1 w1 H)
    | ((with_reducible refine gEq ?_); (first | (refine wl_cmp rfl rfl rfl rfl ?_) | (refine wl_scmp rfl rfl rfl rfl ?_)); intro rb hrb; cases rb <;> (first | (exfalso; simp at hrb; done) | ((try simp only [decide_eq_true_eq, decide_eq_false_iff_not, beq_iff_eq, beq_eq_false_iff_ne, ne_eq, bne_iff_ne, bne_eq_false_iff_eq, Bool.not_eq_true', Bool.not_eq_false', gt_iff_lt, ge_iff_le, Int.not_lt, Int.not_le, Decidable.not_not] at hrb); (try subst hrb); (try (exfalso; omega)))))
    | ((with_reducible refine gAl ?_); (first | (refine al H Z50 rfl rfl ?_) | (refine al H Z41 rfl rfl ?_)); clear H; intro b1 w1 H)
    | ((with_reducible refine gRg ?_); refine wp_region_text rfl (by decide +kernel) ?_; replace H := H.drew)
    | ((with_reducible refine EndQ.intro ?_ ?_); (· kernel_rfl)))
  all_goals (go_ret; exact ⟨rfl, H⟩)
def EachP (w0 : World) (D : Nat → Prop) (R : List Ent) (e : Ending) (w' : World) : Prop := ∃ bx, e = .returned (.func (.func 40) #[] #[.pointer (some ⟨bx, 0, none⟩)]) ∧ Hp w0 D (⟨some bx, [.slice none 0 0], 33, 1⟩ :: R) w'
set_option maxHeartbeats 4000000 in
theorem EachN {w0 w : World} {D : Nat → Prop} {R : List Ent}  (H : Hp w0 D (R) w)  :
    Calls Try.prog 28 #[.pointer none] w fun e w' => EachP w0 D R e w' := by
  try simp only [dkC, Wr.cells, bmt, eD, eS, eW] at H
  go_enter Try.func28, Try.ntmps28
  go_wp2_with (first
    | (go_at_call 25; ((with_reducible refine (ImageN H).mono ?_); rintro e w1 ⟨rfl, H1⟩; clear H; have H := H1; clear H1))
    | ((with_reducible refine gAl ?_); refine wl_alloc rfl Z33 H ?_; clear H; intro bx w1 H; replace H : Hp w0 D (⟨some bx, [.slice none 0 0], 33, 1⟩ :: _) w1 := H)
    | ((with_reducible refine gLd ?_); refine eLd H rfl rfl ?_; first | (refine kLd 0 rfl rfl (by first | exact T3 | exact T4 | exact T9 | exact T23 | exact T27 | exact T31 | exact T33 | exact T45 | exact T37 | exact T41 | exact T50 | exact T52 | exact T69 | exact T72) rfl ?_) | (refine kLdA 0 rfl rfl (by first | exact T3 | exact T4 | exact T9 | exact T23 | exact T27 | exact T31 | exact T33 | exact T45 | exact T37 | exact T41 | exact T50 | exact T52 | exact T69 | exact T72) (Nat.le_of_ble_eq_true rfl) (by simp only [dkC, Wr.cells, bmt, eD, eS, eW, List.drop_succ_cons, List.drop_zero, List.take_succ_cons, List.take_zero, List.set_cons_zero, List.set_cons_succ]; rfl) ?_))
    | ((with_reducible refine gSt ?_); (first | (refine eSt H rfl rfl ⟨.int _ _, rfl, ?_⟩) | (refine eSt H rfl rfl ⟨.bool _, rfl, ?_⟩) | (refine eSt H rfl rfl ⟨.slice _ _ _, rfl, ?_⟩) | (refine eSt H rfl rfl ⟨.pointer _, rfl, ?_⟩) | (refine eSt H rfl rfl ⟨.string _, rfl, ?_⟩) | (refine eSt H rfl rfl ⟨.agg (List.toArray _), rfl, ?_⟩)); (first | (refine kSt 0 rfl rfl (by first | exact T3 | exact T4 | exact T9 | exact T23 | exact T27 | exact T31 | exact T33 | exact T45 | exact T37 | exact T41 | exact T50 | exact T52 | exact T69 | exact T72) rfl (Nat.le_of_ble_eq_true rfl) ?_) | (refine kStA 0 rfl rfl (by first | exact T3 | exact T4 | exact T9 | exact T23 | exact T27 | exact T31 | exact T33 | exact T45 | exact T37 | exact T41 | exact T50 | exact T52 | exact T69 | exact T72) rfl rfl (Nat.le_of_ble_eq_true rfl) ?_)); clear H; intro w1 H; simp only [List.set_cons_zero, List.set_cons_succ] at H; (try simp only [lay, List.take_zero, List.nil_append, List.length_cons, List.length_nil, Nat.zero_add, Nat.reduceAdd, List.drop_succ_cons, List.drop_zero, List.drop_nil, List.append_nil, List.take_succ_cons, List.cons_append] at H))
    | ((with_reducible refine gBx ?_); refine bxA H rfl rfl rfl ?_; clear H; intro b1 w1 H)
    | ((with_reducible refine gBs ?_); (first | (refine bs1 H rfl (by first | exact S33 | exact S45 | exact S31) rfl (Nat.le_of_ble_eq_true rfl) (Nat.le_of_ble_eq_true rfl) rfl ?_) | (refine wl_buildSlice0 rfl (by first | exact S33 | exact S45 | exact S31) H ?_)); clear H; intro b1 w1 H)
    | ((with_reducible refine gEq ?_); (first | (refine wl_cmp rfl rfl rfl rfl ?_) | (refine wl_scmp rfl rfl rfl rfl ?_)); intro rb hrb; cases rb <;> (first | (exfalso; simp at hrb; done) | ((try simp only [decide_eq_true_eq, decide_eq_false_iff_not, beq_iff_eq, beq_eq_false_iff_ne, ne_eq, bne_iff_ne, bne_eq_false_iff_eq, Bool.not_eq_true', Bool.not_eq_false', gt_iff_lt, ge_iff_le, Int.not_lt, Int.not_le, Decidable.not_not] at hrb); (try subst hrb); (try (exfalso; omega)))))
    | ((with_reducible refine gAl ?_); (first | (refine al H Z50 rfl rfl ?_) | (refine al H Z41 rfl rfl ?_)); clear H; intro b1 w1 H)
    | ((with_reducible refine gRg ?_); refine wp_region_text rfl (by decide +kernel) ?_; replace H := H.drew)
    | ((with_reducible refine EndQ.intro ?_ ?_); (· kernel_rfl)))
  go_ret
  exact ⟨_, rfl, H⟩
theorem Each1_nil {W : World} {l bx : Nat} (hb : Old W (fun _ => False) bx 0 [.slice none 0 0]) : Calls Try.prog 40 #[.func (.yield l) #[] #[], .pointer (some ⟨bx, 0, none⟩)] W fun e w' => (∃ v, e = .returned v) ∧ Hp W (fun _ => False) [] w' := by
  have H := Hp.start W
  go_enter Try.func40, Try.ntmps40
  go_wp2_with (first
    | ((with_reducible refine gLd ?_); refine wl_loadR (k := 0) (fun j v hj => H.old hb j v hj) rfl rfl rfl T33 rfl ?_)
    | ((with_reducible refine gLd ?_); refine eLd H rfl rfl ?_; first | (refine kLd 0 rfl rfl (by first | exact T3 | exact T4 | exact T9 | exact T23 | exact T27 | exact T31 | exact T33 | exact T45 | exact T37 | exact T41 | exact T50 | exact T52 | exact T69 | exact T72) rfl ?_) | (refine kLdA 0 rfl rfl (by first | exact T3 | exact T4 | exact T9 | exact T23 | exact T27 | exact T31 | exact T33 | exact T45 | exact T37 | exact T41 | exact T50 | exact T52 | exact T69 | exact T72) (Nat.le_of_ble_eq_true rfl) (by simp only [dkC, Wr.cells, bmt, eD, eS, eW, List.drop_succ_cons, List.drop_zero, List.take_succ_cons, List.take_zero, List.set_cons_zero, List.set_cons_succ]; rfl) ?_))
    | ((with_reducible refine gSt ?_); (first | (refine eSt H rfl rfl ⟨.int _ _, rfl, ?_⟩) | (refine eSt H rfl rfl ⟨.bool _, rfl, ?_⟩) | (refine eSt H rfl rfl ⟨.slice _ _ _, rfl, ?_⟩) | (refine eSt H rfl rfl ⟨.pointer _, rfl, ?_⟩) | (refine eSt H rfl rfl ⟨.string _, rfl, ?_⟩) | (refine eSt H rfl rfl ⟨.agg (List.toArray _), rfl, ?_⟩)); (first | (refine kSt 0 rfl rfl (by first | exact T3 | exact T4 | exact T9 | exact T23 | exact T27 | exact T31 | exact T33 | exact T45 | exact T37 | exact T41 | exact T50 | exact T52 | exact T69 | exact T72) rfl (Nat.le_of_ble_eq_true rfl) ?_) | (refine kStA 0 rfl rfl (by first | exact T3 | exact T4 | exact T9 | exact T23 | exact T27 | exact T31 | exact T33 | exact T45 | exact T37 | exact T41 | exact T50 | exact T52 | exact T69 | exact T72) rfl rfl (Nat.le_of_ble_eq_true rfl) ?_)); clear H; intro w1 H; simp only [List.set_cons_zero, List.set_cons_succ] at H; (try simp only [lay, List.take_zero, List.nil_append, List.length_cons, List.length_nil, Nat.zero_add, Nat.reduceAdd, List.drop_succ_cons, List.drop_zero, List.drop_nil, List.append_nil, List.take_succ_cons, List.cons_append] at H))
    | ((with_reducible refine gBx ?_); refine bxA H rfl rfl rfl ?_; clear H; intro b1 w1 H)
    | ((with_reducible refine gBs ?_); (first | (refine bs1 H rfl (by first | exact S33 | exact S45 | exact S31) rfl (Nat.le_of_ble_eq_true rfl) (Nat.le_of_ble_eq_true rfl) rfl ?_) | (refine wl_buildSlice0 rfl (by first | exact S33 | exact S45 | exact S31) H ?_)); clear H; intro b1 w1 H)
    | ((with_reducible refine gEq ?_); (first | (refine wl_cmp rfl rfl rfl rfl ?_) | (refine wl_scmp rfl rfl rfl rfl ?_)); intro rb hrb; cases rb <;> (first | (exfalso; simp at hrb; done) | ((try simp only [decide_eq_true_eq, decide_eq_false_iff_not, beq_iff_eq, beq_eq_false_iff_ne, ne_eq, bne_iff_ne, bne_eq_false_iff_eq, Bool.not_eq_true', Bool.not_eq_false', gt_iff_lt, ge_iff_le, Int.not_lt, Int.not_le, Decidable.not_not] at hrb); (try subst hrb); (try (exfalso; omega)))))
    | ((with_reducible refine gAl ?_); (first | (refine al H Z50 rfl rfl ?_) | (refine al H Z41 rfl rfl ?_)); clear H; intro b1 w1 H)
    | ((with_reducible refine gRg ?_); refine wp_region_text rfl (by decide +kernel) ?_; replace H := H.drew)
    | ((with_reducible refine EndQ.intro ?_ ?_); (· kernel_rfl)))
  go_loopg [7] 0 (fun g v7 wr => v7 = .int .i64 0 ∧ Hp W (fun _ => False) [] wr)
  case atStart => exact ⟨rfl, H⟩
  case round =>
    clear H
    obtain ⟨rfl, H⟩ := hrel
    go_wp2_with (first
    | ((with_reducible refine gLd ?_); refine eLd H rfl rfl ?_; first | (refine kLd 0 rfl rfl (by first | exact T3 | exact T4 | exact T9 | exact T23 | exact T27 | exact T31 | exact T33 | exact T45 | exact T37 | exact T41 | exact T50 | exact T52 | exact T69 | exact T72) rfl ?_) | (refine kLdA 0 rfl rfl (by first | exact T3 | exact T4 | exact T9 | exact T23 | exact T27 | exact T31 | exact T33 | exact T45 | exact T37 | exact T41 | exact T50 | exact T52 | exact T69 | exact T72) (Nat.le_of_ble_eq_true rfl) (by simp only [dkC, Wr.cells, bmt, eD, eS, eW, List.drop_succ_cons, List.drop_zero, List.take_succ_cons, List.take_zero, List.set_cons_zero, List.set_cons_succ]; rfl) ?_))
    | ((with_reducible refine gSt ?_); (first | (refine eSt H rfl rfl ⟨.int _ _, rfl, ?_⟩) | (refine eSt H rfl rfl ⟨.bool _, rfl, ?_⟩) | (refine eSt H rfl rfl ⟨.slice _ _ _, rfl, ?_⟩) | (refine eSt H rfl rfl ⟨.pointer _, rfl, ?_⟩) | (refine eSt H rfl rfl ⟨.string _, rfl, ?_⟩) | (refine eSt H rfl rfl ⟨.agg (List.toArray _), rfl, ?_⟩)); (first | (refine kSt 0 rfl rfl (by first | exact T3 | exact T4 | exact T9 | exact T23 | exact T27 | exact T31 | exact T33 | exact T45 | exact T37 | exact T41 | exact T50 | exact T52 | exact T69 | exact T72) rfl (Nat.le_of_ble_eq_true rfl) ?_) | (refine kStA 0 rfl rfl (by first | exact T3 | exact T4 | exact T9 | exact T23 | exact T27 | exact T31 | exact T33 | exact T45 | exact T37 | exact T41 | exact T50 | exact T52 | exact T69 | exact T72) rfl rfl (Nat.le_of_ble_eq_true rfl) ?_)); clear H; intro w1 H; simp only [List.set_cons_zero, List.set_cons_succ] at H; (try simp only [lay, List.take_zero, List.nil_append, List.length_cons, List.length_nil, Nat.zero_add, Nat.reduceAdd, List.drop_succ_cons, List.drop_zero, List.drop_nil, List.append_nil, List.take_succ_cons, List.cons_append] at H))
    | ((with_reducible refine gBx ?_); refine bxA H rfl rfl rfl ?_; clear H; intro b1 w1 H)
    | ((with_reducible refine gBs ?_); (first | (refine bs1 H rfl (by first | exact S33 | exact S45 | exact S31) rfl (Nat.le_of_ble_eq_true rfl) (Nat.le_of_ble_eq_true rfl) rfl ?_) | (refine wl_buildSlice0 rfl (by first | exact S33 | exact S45 | exact S31) H ?_)); clear H; intro b1 w1 H)
    | ((with_reducible refine gEq ?_); (first | (refine wl_cmp rfl rfl rfl rfl ?_) | (refine wl_scmp rfl rfl rfl rfl ?_)); intro rb hrb; cases rb <;> (first | (exfalso; simp at hrb; done) | ((try simp only [decide_eq_true_eq, decide_eq_false_iff_not, beq_iff_eq, beq_eq_false_iff_ne, ne_eq, bne_iff_ne, bne_eq_false_iff_eq, Bool.not_eq_true', Bool.not_eq_false', gt_iff_lt, ge_iff_le, Int.not_lt, Int.not_le, Decidable.not_not] at hrb); (try subst hrb); (try (exfalso; omega)))))
    | ((with_reducible refine gAl ?_); (first | (refine al H Z50 rfl rfl ?_) | (refine al H Z41 rfl rfl ?_)); clear H; intro b1 w1 H)
    | ((with_reducible refine gRg ?_); refine wp_region_text rfl (by decide +kernel) ?_; replace H := H.drew)
    | ((with_reducible refine EndQ.intro ?_ ?_); (· kernel_rfl)))
    all_goals exact end_none rfl ⟨⟨_, rfl⟩, H⟩
theorem Each_seq {w0 : World} {D : Nat → Prop} {Z : List Ent} {bx : Nat} (hbx : Rd w0 D Z (some ⟨bx, 0, none⟩) [.slice none 0 0]) (hbs : ∀ u, Hp w0 D Z u → bx < u.heap.size) :
    SeqHp Try.prog 40 #[.pointer (some ⟨bx, 0, none⟩)] (fun x : Int × ByteArray => #[.int .i64 x.1, .string x.2]) [] (fun u => Hp w0 D Z u) := by
  intro l J Jx W hJS hg hxg hY h0
  have H := hJS _ _ h0
  rcases hbx with h | ⟨b, o, e, h⟩
  · cases h
  cases e
  refine callsIn_wide.2 ?_
  simp only [List.append_toArray, List.cons_append, List.nil_append]
  refine (Each1_nil (l := l) ⟨fun h => h, hbs W H, fun j v hj => h [] W H j v hj⟩).mono ?_
  rintro e w' ⟨hv, hG⟩
  exact ⟨hv, .inl (hg _ _ _ h0 hG)⟩
set_option maxHeartbeats 8000000 in
theorem Nil_spec {w0 w : World} {D : Nat → Prop} (H : Hp w0 D [] w) : Calls Try.prog 9 #[] w fun e w' => e = .returned (.bool true) ∧ ∃ L, Hp w0 D L w' := by
  refine (callsIn_wide (n := 0)).1 (callsIn_of_wp_marks Try.func9 rfl trivial (wpIn_wide.2 ?_) rfl)
  simp only [Try.ntmps9, List.size_toArray, List.length_cons, List.length_nil, Nat.reduceAdd, Nat.reduceSub, Array.replicate_succ, Array.replicate_zero, List.push_toArray, List.append_toArray, List.nil_append, List.cons_append]
  go_wp2_with (first
    | ((with_reducible refine gAl ?_); refine wl_alloc rfl Z4 H ?_; clear H; intro b0 w1 H; replace H : Hp w0 D (⟨some b0, [.bool false], 4, 1⟩ :: _) w1 := H)
    | (go_at_call 32; ((with_reducible refine (ReadN H).mono ?_); rintro e w1 ⟨rfl, H1⟩; clear H; have H := H1; clear H1))
    | (go_at_call 23; ((with_reducible refine (CutN H).mono ?_); rintro e w1 ⟨rfl, H1⟩; clear H; have H := H1; clear H1))
    | (go_at_call 33; ((with_reducible refine (LeftN H).mono ?_); rintro e w1 ⟨rfl, H1⟩; clear H; have H := H1; clear H1))
    | (go_at_call 34; ((with_reducible refine (StartN H).mono ?_); rintro e w1 ⟨rfl, H1⟩; clear H; have H := H1; clear H1))
    | (go_at_call 11; ((with_reducible refine (New_at H y13 (by decide) (by decide) rfl).mono ?_); rintro e w1 ⟨bm, p, f, b, cf, cb, rfl, H1⟩; clear H; have H := H1; clear H1; try simp only [eD, dkC, eS, eW] at H))
    | (go_at_call 28; ((with_reducible refine (EachN H).mono ?_); rintro e w1 ⟨bx, rfl, H1⟩; clear H; have H := H1; clear H1))
    | ((with_reducible refine gEq ?_); refine wl_nilF rfl rfl rfl ?_)
    | ((with_reducible refine gLd ?_); refine eLd H rfl rfl ?_; first | (refine kLd 0 rfl rfl (by first | exact T3 | exact T4 | exact T9 | exact T23 | exact T27 | exact T31 | exact T33 | exact T45 | exact T37 | exact T41 | exact T50 | exact T52 | exact T69 | exact T72) rfl ?_) | (refine kLdA 0 rfl rfl (by first | exact T3 | exact T4 | exact T9 | exact T23 | exact T27 | exact T31 | exact T33 | exact T45 | exact T37 | exact T41 | exact T50 | exact T52 | exact T69 | exact T72) (Nat.le_of_ble_eq_true rfl) (by simp only [dkC, Wr.cells, bmt, eD, eS, eW, List.drop_succ_cons, List.drop_zero, List.take_succ_cons, List.take_zero, List.set_cons_zero, List.set_cons_succ]; rfl) ?_))
    | ((with_reducible refine gSt ?_); (first | (refine eSt H rfl rfl ⟨.int _ _, rfl, ?_⟩) | (refine eSt H rfl rfl ⟨.bool _, rfl, ?_⟩) | (refine eSt H rfl rfl ⟨.slice _ _ _, rfl, ?_⟩) | (refine eSt H rfl rfl ⟨.pointer _, rfl, ?_⟩) | (refine eSt H rfl rfl ⟨.string _, rfl, ?_⟩) | (refine eSt H rfl rfl ⟨.agg (List.toArray _), rfl, ?_⟩)); (first | (refine kSt 0 rfl rfl (by first | exact T3 | exact T4 | exact T9 | exact T23 | exact T27 | exact T31 | exact T33 | exact T45 | exact T37 | exact T41 | exact T50 | exact T52 | exact T69 | exact T72) rfl (Nat.le_of_ble_eq_true rfl) ?_) | (refine kStA 0 rfl rfl (by first | exact T3 | exact T4 | exact T9 | exact T23 | exact T27 | exact T31 | exact T33 | exact T45 | exact T37 | exact T41 | exact T50 | exact T52 | exact T69 | exact T72) rfl rfl (Nat.le_of_ble_eq_true rfl) ?_)); clear H; intro w1 H; simp only [List.set_cons_zero, List.set_cons_succ] at H; (try simp only [lay, List.take_zero, List.nil_append, List.length_cons, List.length_nil, Nat.zero_add, Nat.reduceAdd, List.drop_succ_cons, List.drop_zero, List.drop_nil, List.append_nil, List.take_succ_cons, List.cons_append] at H))
    | ((with_reducible refine gBx ?_); refine bxA H rfl rfl rfl ?_; clear H; intro b1 w1 H)
    | ((with_reducible refine gBs ?_); (first | (refine bs1 H rfl (by first | exact S33 | exact S45 | exact S31) rfl (Nat.le_of_ble_eq_true rfl) (Nat.le_of_ble_eq_true rfl) rfl ?_) | (refine wl_buildSlice0 rfl (by first | exact S33 | exact S45 | exact S31) H ?_)); clear H; intro b1 w1 H)
    | ((with_reducible refine gEq ?_); (first | (refine wl_cmp rfl rfl rfl rfl ?_) | (refine wl_scmp rfl rfl rfl rfl ?_)); intro rb hrb; cases rb <;> (first | (exfalso; simp at hrb; done) | ((try simp only [decide_eq_true_eq, decide_eq_false_iff_not, beq_iff_eq, beq_eq_false_iff_ne, ne_eq, bne_iff_ne, bne_eq_false_iff_eq, Bool.not_eq_true', Bool.not_eq_false', gt_iff_lt, ge_iff_le, Int.not_lt, Int.not_le, Decidable.not_not] at hrb); (try subst hrb); (try (exfalso; omega)))))
    | ((with_reducible refine gAl ?_); (first | (refine al H Z50 rfl rfl ?_) | (refine al H Z41 rfl rfl ?_)); clear H; intro b1 w1 H)
    | ((with_reducible refine gRg ?_); refine wp_region_text rfl (by decide +kernel) ?_; replace H := H.drew)
    | ((with_reducible refine EndQ.intro ?_ ?_); (· kernel_rfl)))
  have HB := Rd.ent H (i := 0) rfl
  refine wpIn_wide.1 (wp_rf (M := []) H rfl (enters_of Try.func40 (by kernel_rfl) rfl) (Each_seq HB (fun u hu => hu.lt (i := 0) rfl rfl)) (fun _ => rfl) (fun _ L => L = []) (fun _ _ _ => False) (fun _ _ _ _ => True) rfl ?assign ?body ?done ?stop)
  case assign =>
    intro l pre x post L w1 D1 K hfull
    simp at hfull
  case body =>
    intro l pre x post a' L w1 D1 hfull
    simp at hfull
  case done =>
    rintro k L w1' D1 rfl X H1 hm
    have H := H1
    clear H1
    simp only [List.nil_append] at H
    go_upto_region 11 with ((first
    | (go_at_call 15; ((with_reducible refine (WriteN H).mono ?_); rintro e w1 ⟨rfl, H1⟩; clear H; have H := H1; clear H1))
    | (go_at_call 13; ((with_reducible refine (num_spec H _).mono ?_); rintro e w1 ⟨rfl, H1⟩; clear H; have H := H1; clear H1))
    | (go_at_call 18; ((with_reducible refine (ArmN H).mono ?_); rintro e w1 ⟨rfl, H1⟩; clear H; have H := H1; clear H1))
    | (go_at_call 16; ((with_reducible refine (BlocksN H).mono ?_); rintro e w1 ⟨rfl, H1⟩; clear H; have H := H1; clear H1))
    | (go_at_call 19; ((with_reducible refine (WritesN H).mono ?_); rintro e w1 ⟨rfl, H1⟩; clear H; have H := H1; clear H1))
    | (go_at_call 26; ((with_reducible refine (DeadN H).mono ?_); rintro e w1 ⟨rfl, H1⟩; clear H; have H := H1; clear H1))
    | (go_at_call 25; ((with_reducible refine (ImageN H).mono ?_); rintro e w1 ⟨rfl, H1⟩; clear H; have H := H1; clear H1))
    | (go_at_call 22; ((with_reducible refine (LogN H).mono ?_); rintro e w1 ⟨rfl, H1⟩; clear H; have H := H1; clear H1))
    | (go_at_call 35; ((with_reducible refine (CopyN H).mono ?_); rintro e w1 ⟨rfl, H1⟩; clear H; have H := H1; clear H1))
    | (go_at_call 20; first | ((with_reducible refine (SameNN H).mono ?_); rintro e w1 ⟨rfl, H1⟩; clear H; have H := H1; clear H1) | ((with_reducible refine (SameNX H).mono ?_); rintro e w1 ⟨rfl, H1⟩; clear H; have H := H1; clear H1) | ((with_reducible refine (SameXN H).mono ?_); rintro e w1 ⟨rfl, H1⟩; clear H; have H := H1; clear H1))
    | (go_at_call 10; ((with_reducible refine (live_spec H).mono ?_); rintro e w1 ⟨rfl, H1⟩; clear H; have H := H1; clear H1))
    | ((with_reducible refine gLd ?_); refine eLd H rfl rfl ?_; first | (refine kLd 0 rfl rfl (by first | exact T3 | exact T4 | exact T9 | exact T23 | exact T27 | exact T31 | exact T33 | exact T45 | exact T37 | exact T41 | exact T50 | exact T52 | exact T69 | exact T72) rfl ?_) | (refine kLdA 0 rfl rfl (by first | exact T3 | exact T4 | exact T9 | exact T23 | exact T27 | exact T31 | exact T33 | exact T45 | exact T37 | exact T41 | exact T50 | exact T52 | exact T69 | exact T72) (Nat.le_of_ble_eq_true rfl) (by simp only [dkC, Wr.cells, bmt, eD, eS, eW, List.drop_succ_cons, List.drop_zero, List.take_succ_cons, List.take_zero, List.set_cons_zero, List.set_cons_succ]; rfl) ?_))
    | ((with_reducible refine gSt ?_); (first | (refine eSt H rfl rfl ⟨.int _ _, rfl, ?_⟩) | (refine eSt H rfl rfl ⟨.bool _, rfl, ?_⟩) | (refine eSt H rfl rfl ⟨.slice _ _ _, rfl, ?_⟩) | (refine eSt H rfl rfl ⟨.pointer _, rfl, ?_⟩) | (refine eSt H rfl rfl ⟨.string _, rfl, ?_⟩) | (refine eSt H rfl rfl ⟨.agg (List.toArray _), rfl, ?_⟩)); (first | (refine kSt 0 rfl rfl (by first | exact T3 | exact T4 | exact T9 | exact T23 | exact T27 | exact T31 | exact T33 | exact T45 | exact T37 | exact T41 | exact T50 | exact T52 | exact T69 | exact T72) rfl (Nat.le_of_ble_eq_true rfl) ?_) | (refine kStA 0 rfl rfl (by first | exact T3 | exact T4 | exact T9 | exact T23 | exact T27 | exact T31 | exact T33 | exact T45 | exact T37 | exact T41 | exact T50 | exact T52 | exact T69 | exact T72) rfl rfl (Nat.le_of_ble_eq_true rfl) ?_)); clear H; intro w1 H; simp only [List.set_cons_zero, List.set_cons_succ] at H; (try simp only [lay, List.take_zero, List.nil_append, List.length_cons, List.length_nil, Nat.zero_add, Nat.reduceAdd, List.drop_succ_cons, List.drop_zero, List.drop_nil, List.append_nil, List.take_succ_cons, List.cons_append] at H))
    | ((with_reducible refine gBx ?_); refine bxA H rfl rfl rfl ?_; clear H; intro b1 w1 H)
    | ((with_reducible refine gBs ?_); (first | (refine bs1 H rfl (by first | exact S33 | exact S45 | exact S31) rfl (Nat.le_of_ble_eq_true rfl) (Nat.le_of_ble_eq_true rfl) rfl ?_) | (refine wl_buildSlice0 rfl (by first | exact S33 | exact S45 | exact S31) H ?_)); clear H; intro b1 w1 H)
    | ((with_reducible refine gEq ?_); (first | (refine wl_cmp rfl rfl rfl rfl ?_) | (refine wl_scmp rfl rfl rfl rfl ?_)); intro rb hrb; cases rb <;> (first | (exfalso; simp at hrb; done) | ((try simp only [decide_eq_true_eq, decide_eq_false_iff_not, beq_iff_eq, beq_eq_false_iff_ne, ne_eq, bne_iff_ne, bne_eq_false_iff_eq, Bool.not_eq_true', Bool.not_eq_false', gt_iff_lt, ge_iff_le, Int.not_lt, Int.not_le, Decidable.not_not] at hrb); (try subst hrb); (try (exfalso; omega)))))
    | ((with_reducible refine gAl ?_); (first | (refine al H Z50 rfl rfl ?_) | (refine al H Z41 rfl rfl ?_)); clear H; intro b1 w1 H)
    | ((with_reducible refine gRg ?_); refine wp_region_text rfl (by decide +kernel) ?_; replace H := H.drew)
    | ((with_reducible refine EndQ.intro ?_ ?_); (· kernel_rfl))))
    go_step
    simp only [List.append_eq, List.cons_append, List.nil_append]
    go_wp2_with (first
    | ((with_reducible refine gSt ?_); refine eSt H rfl rfl ⟨.bool _, rfl, ?_⟩; refine kSt 7 rfl rfl T4 rfl (Nat.le_of_ble_eq_true rfl) ?_; clear H; intro w1 H; simp only [List.set_cons_zero, List.set_cons_succ] at H)
    | (go_at_call 15; ((with_reducible refine (WriteN H).mono ?_); rintro e w1 ⟨rfl, H1⟩; clear H; have H := H1; clear H1))
    | (go_at_call 13; ((with_reducible refine (num_spec H _).mono ?_); rintro e w1 ⟨rfl, H1⟩; clear H; have H := H1; clear H1))
    | (go_at_call 18; ((with_reducible refine (ArmN H).mono ?_); rintro e w1 ⟨rfl, H1⟩; clear H; have H := H1; clear H1))
    | (go_at_call 16; ((with_reducible refine (BlocksN H).mono ?_); rintro e w1 ⟨rfl, H1⟩; clear H; have H := H1; clear H1))
    | (go_at_call 19; ((with_reducible refine (WritesN H).mono ?_); rintro e w1 ⟨rfl, H1⟩; clear H; have H := H1; clear H1))
    | (go_at_call 26; ((with_reducible refine (DeadN H).mono ?_); rintro e w1 ⟨rfl, H1⟩; clear H; have H := H1; clear H1))
    | (go_at_call 25; ((with_reducible refine (ImageN H).mono ?_); rintro e w1 ⟨rfl, H1⟩; clear H; have H := H1; clear H1))
    | (go_at_call 22; ((with_reducible refine (LogN H).mono ?_); rintro e w1 ⟨rfl, H1⟩; clear H; have H := H1; clear H1))
    | (go_at_call 35; ((with_reducible refine (CopyN H).mono ?_); rintro e w1 ⟨rfl, H1⟩; clear H; have H := H1; clear H1))
    | (go_at_call 20; first | ((with_reducible refine (SameNN H).mono ?_); rintro e w1 ⟨rfl, H1⟩; clear H; have H := H1; clear H1) | ((with_reducible refine (SameNX H).mono ?_); rintro e w1 ⟨rfl, H1⟩; clear H; have H := H1; clear H1) | ((with_reducible refine (SameXN H).mono ?_); rintro e w1 ⟨rfl, H1⟩; clear H; have H := H1; clear H1))
    | (go_at_call 10; ((with_reducible refine (live_spec H).mono ?_); rintro e w1 ⟨rfl, H1⟩; clear H; have H := H1; clear H1))
    | ((with_reducible refine gLd ?_); refine eLd H rfl rfl ?_; first | (refine kLd 0 rfl rfl (by first | exact T3 | exact T4 | exact T9 | exact T23 | exact T27 | exact T31 | exact T33 | exact T45 | exact T37 | exact T41 | exact T50 | exact T52 | exact T69 | exact T72) rfl ?_) | (refine kLdA 0 rfl rfl (by first | exact T3 | exact T4 | exact T9 | exact T23 | exact T27 | exact T31 | exact T33 | exact T45 | exact T37 | exact T41 | exact T50 | exact T52 | exact T69 | exact T72) (Nat.le_of_ble_eq_true rfl) (by simp only [dkC, Wr.cells, bmt, eD, eS, eW, List.drop_succ_cons, List.drop_zero, List.take_succ_cons, List.take_zero, List.set_cons_zero, List.set_cons_succ]; rfl) ?_))
    | ((with_reducible refine gSt ?_); (first | (refine eSt H rfl rfl ⟨.int _ _, rfl, ?_⟩) | (refine eSt H rfl rfl ⟨.bool _, rfl, ?_⟩) | (refine eSt H rfl rfl ⟨.slice _ _ _, rfl, ?_⟩) | (refine eSt H rfl rfl ⟨.pointer _, rfl, ?_⟩) | (refine eSt H rfl rfl ⟨.string _, rfl, ?_⟩) | (refine eSt H rfl rfl ⟨.agg (List.toArray _), rfl, ?_⟩)); (first | (refine kSt 0 rfl rfl (by first | exact T3 | exact T4 | exact T9 | exact T23 | exact T27 | exact T31 | exact T33 | exact T45 | exact T37 | exact T41 | exact T50 | exact T52 | exact T69 | exact T72) rfl (Nat.le_of_ble_eq_true rfl) ?_) | (refine kStA 0 rfl rfl (by first | exact T3 | exact T4 | exact T9 | exact T23 | exact T27 | exact T31 | exact T33 | exact T45 | exact T37 | exact T41 | exact T50 | exact T52 | exact T69 | exact T72) rfl rfl (Nat.le_of_ble_eq_true rfl) ?_)); clear H; intro w1 H; simp only [List.set_cons_zero, List.set_cons_succ] at H; (try simp only [lay, List.take_zero, List.nil_append, List.length_cons, List.length_nil, Nat.zero_add, Nat.reduceAdd, List.drop_succ_cons, List.drop_zero, List.drop_nil, List.append_nil, List.take_succ_cons, List.cons_append] at H))
    | ((with_reducible refine gBx ?_); refine bxA H rfl rfl rfl ?_; clear H; intro b1 w1 H)
    | ((with_reducible refine gBs ?_); (first | (refine bs1 H rfl (by first | exact S33 | exact S45 | exact S31) rfl (Nat.le_of_ble_eq_true rfl) (Nat.le_of_ble_eq_true rfl) rfl ?_) | (refine wl_buildSlice0 rfl (by first | exact S33 | exact S45 | exact S31) H ?_)); clear H; intro b1 w1 H)
    | ((with_reducible refine gEq ?_); (first | (refine wl_cmp rfl rfl rfl rfl ?_) | (refine wl_scmp rfl rfl rfl rfl ?_)); intro rb hrb; cases rb <;> (first | (exfalso; simp at hrb; done) | ((try simp only [decide_eq_true_eq, decide_eq_false_iff_not, beq_iff_eq, beq_eq_false_iff_ne, ne_eq, bne_iff_ne, bne_eq_false_iff_eq, Bool.not_eq_true', Bool.not_eq_false', gt_iff_lt, ge_iff_le, Int.not_lt, Int.not_le, Decidable.not_not] at hrb); (try subst hrb); (try (exfalso; omega)))))
    | ((with_reducible refine gAl ?_); (first | (refine al H Z50 rfl rfl ?_) | (refine al H Z41 rfl rfl ?_)); clear H; intro b1 w1 H)
    | ((with_reducible refine gRg ?_); refine wp_region_text rfl (by decide +kernel) ?_; replace H := H.drew)
    | ((with_reducible refine EndQ.intro ?_ ?_); (· kernel_rfl)))
    refine leave1c hm X H rfl rfl rfl (i := 7) rfl rfl T4 rfl fun u hu => ?_
    exact ⟨rfl, _, hu⟩
  case stop => exact fun _ _ _ _ _ _ _ _ h => h.elim
end Go.Proofs.Ytfcmjddpoacenaa
