/- What functions of layer 4 compute. -/
import Derived.Test.YtgnmjeajmnmobaaW41
import Derived.TacticsInMore
import Derived.Shelf.Abstract
import Derived.WalkKit
import Derived.Lib.Hide
import Derived.Deep.LoopGhost
import Derived.WalkSpells
set_option linter.unusedVariables false
set_option linter.unusedSimpArgs false
namespace Go.Proofs.Ytgnmjeajmnmobaa
open Go.RowKit Go.Gx Go.Gx.Kp
set_option maxRecDepth 100000
open KeyOrd
attribute [local go_sem] Oper.semAt_some
theorem del_snoc (l : Ents) (x : ByteArray × Int) (k : ByteArray) : del (l ++ [x]) k = if other x.1 k = true then del l k ++ [x] else del l k := by
  rw [del_filter, del_filter, List.filter_append]
  by_cases h : other x.1 k = true
  · rw [if_pos h]; simp [h]
  · rw [if_neg h]; simp [h]
theorem take_sn {α : Type} {l : List α} {k : Nat} {x : α} (h : l[k]? = some x) : l.take (k + 1) = l.take k ++ [x] := by
  rw [List.take_add_one, h]; rfl
set_option maxHeartbeats 4000000 in
theorem rDrop_spec {w0 w : World} {D : Nat → Prop} {R : List Ent} {x : Option Addr} {c n : Nat} {l : Ents} {k : ByteArray} {r : Ents} (H : Hp w0 D (R) w) (hx : Rd w0 D R x (cellsE l)) (hn : l.length = n) (hb : n ≤ 100000) (hr : del l k = r) :
    Calls Try.prog 45 #[.slice x n c, .string k] w fun e w' => RPost w0 D R r e w' := by
  have HN := Lib.hid hn
  have HX := Lib.hid hx
  clear hn hx
  have HR := Lib.hid hr
  clear hr
  go_enter Try.func45, Try.ntmps45
  go_wp2_with (first
    | ((with_reducible refine gLd ?_); refine eLd H rfl rfl ?_; first | (refine kLd 0 rfl rfl (by first | exact T3 | exact T4 | exact T9 | exact T22 | exact T25 | exact T27 | exact T34) rfl ?_) | (refine kLdA 0 rfl rfl (by first | exact T3 | exact T4 | exact T9 | exact T22 | exact T25 | exact T27 | exact T34) (Nat.le_of_ble_eq_true rfl) (by simp only [List.drop_succ_cons, List.drop_zero, List.take_succ_cons, List.take_zero, List.set_cons_zero, List.set_cons_succ]; rfl) ?_))
    | ((with_reducible refine gSt ?_); (first | (refine eSt H rfl rfl ⟨.int _ _, rfl, ?_⟩) | (refine eSt H rfl rfl ⟨.bool _, rfl, ?_⟩) | (refine eSt H rfl rfl ⟨.slice _ _ _, rfl, ?_⟩) | (refine eSt H rfl rfl ⟨.pointer _, rfl, ?_⟩) | (refine eSt H rfl rfl ⟨.string _, rfl, ?_⟩) | (refine eSt H rfl rfl ⟨.agg (List.toArray _), rfl, ?_⟩)); (first | (refine kSt 0 rfl rfl (by first | exact T3 | exact T4 | exact T9 | exact T22 | exact T25 | exact T27 | exact T34) rfl (Nat.le_of_ble_eq_true rfl) ?_) | (refine kStA 0 rfl rfl (by first | exact T3 | exact T4 | exact T9 | exact T22 | exact T25 | exact T27 | exact T34) rfl rfl (Nat.le_of_ble_eq_true rfl) ?_)); clear H; intro w1 H; simp only [List.set_cons_zero, List.set_cons_succ] at H; (try simp only [lay, List.take_zero, List.nil_append, List.length_cons, List.length_nil, Nat.zero_add, Nat.reduceAdd, List.drop_succ_cons, List.drop_zero, List.drop_nil, List.append_nil, List.take_succ_cons, List.cons_append] at H))
    | ((with_reducible refine gBx ?_); refine bxA H rfl rfl rfl ?_; clear H; intro b1 w1 H)
    | ((with_reducible refine gBs ?_); (first | (refine bs1 H rfl (by first | exact S22) rfl (Nat.le_of_ble_eq_true rfl) (Nat.le_of_ble_eq_true rfl) rfl ?_) | (refine wl_buildSlice0 rfl (by first | exact S22) H ?_)); clear H; intro b1 w1 H)
    | ((with_reducible refine gEq ?_); (first | (refine wl_cmp rfl rfl rfl rfl ?_) | (refine wl_scmp rfl rfl rfl rfl ?_)); intro rb hrb; cases rb <;> (first | (exfalso; simp at hrb; done) | ((try simp only [decide_eq_true_eq, decide_eq_false_iff_not, beq_iff_eq, beq_eq_false_iff_ne, ne_eq, bne_iff_ne, bne_eq_false_iff_eq, Bool.not_eq_true', Bool.not_eq_false', gt_iff_lt, ge_iff_le, Int.not_lt, Int.not_le, Decidable.not_not] at hrb); (try subst hrb); (try (exfalso; omega)))))
    | ((with_reducible refine gAl ?_); (first | (refine al H Z34 rfl rfl ?_)); clear H; intro b1 w1 H)
    | ((with_reducible refine gRg ?_); refine wp_region_text rfl (by decide +kernel) ?_; replace H := H.drew)
    | ((with_reducible refine EndQ.intro ?_ ?_); (· kernel_rfl)))
  go_loopg [5, 6] n (fun g v5 v6 wr => ∃ (j ol : Nat) (a : Option Nat) (c' : Nat) (out : Ents), v5 = .slice (adr a 0) ol c' ∧ v6 = .int .i64 (j : Int) ∧ j + g = n ∧ Hid (out.length = ol) ∧ ol ≤ j ∧ Hid (del (l.take j) k = out) ∧ Hp w0 D (eE a c' out :: R) wr)
  case atStart => exact ⟨0, 0, none, 0, [], rfl, rfl, by omega, Lib.hid rfl, by omega, Lib.hid rfl, H.consNone 34⟩
  case round =>
    clear H
    obtain ⟨j, ol, a, c', out, rfl, rfl, hjg, HOL, hol, HI, H⟩ := hrel
    by_cases hj : j < n
    · obtain ⟨⟨yk, yv⟩, hy⟩ : ∃ y, l[j]? = some y := ⟨_, List.getElem?_eq_getElem (by rw [HN.out]; exact hj)⟩
      obtain ⟨bx, ox, rfl, hX⟩ := HX.out.some_of (by rw [cellsE_len, HN.out]; omega)
      have HK := Lib.hid (cellsE_get hy).1
      have HG := Lib.hid (cellsE_pick hy)
      have hst := del_snoc (l.take j) (yk, yv) k
      rw [← take_sn hy, HI.out] at hst
      have hgp : 0 < gk := by omega
      have HJG := Lib.hid hjg
      have HOLB := Lib.hid hol
      have hob : ol ≤ 100000 := by omega
      cases c1 : other yk k with
      | true =>
        have C1 := Lib.hid c1
        have HI2 := Lib.hid (show del (l.take (j + 1)) k = out ++ [(yk, yv)] by rw [hst, if_pos c1])
        clear hy hst c1 hjg hol HI
        go_wp2_with (first
    | ((with_reducible refine gLd ?_); first | (refine wl_loadR (k := j * 2) (hX [_] _ H) rfl rfl (by first | rfl | omega) T9 HK.out ?_) | (refine wl_loadR (k := j * 2) (hX [_] _ H) rfl rfl (by first | rfl | omega) T34 HG.out ?_))
    | ((with_reducible refine gEq ?_); refine wl_ocmp rfl rfl (by first | exact congrArg some C1.out) rfl ?_)
    | ((with_reducible refine gBs ?_); refine bs1 (vs := [.string yk, .int .i64 yv]) H rfl S22 rfl (by decide) (by decide) rfl ?_; clear H; intro bq1 w1 H)
    | ((with_reducible refine gAp ?_); refine wl_append 1 0 rfl H rfl rfl rfl rfl S22 (by decide) (Or.inl rfl) (by rw [cellsE_len, HOL.out]) rfl (fun h => by cases h) (Nat.le_of_ble_eq_true rfl) (by simp [Value.oneCell']) (by unfold maxLen; omega) (by omega) ?_; clear H; intro ae' ce' w1 H h0; clear h0; simp only [List.set_cons_zero, List.set_cons_succ, List.drop_zero, Nat.one_mul, List.take_succ_cons, List.take_zero] at H; rw [cellsE_snoc] at H; replace H := H.drop)
    | ((with_reducible refine gLd ?_); refine eLd H rfl rfl ?_; first | (refine kLd 0 rfl rfl (by first | exact T3 | exact T4 | exact T9 | exact T22 | exact T25 | exact T27 | exact T34) rfl ?_) | (refine kLdA 0 rfl rfl (by first | exact T3 | exact T4 | exact T9 | exact T22 | exact T25 | exact T27 | exact T34) (Nat.le_of_ble_eq_true rfl) (by simp only [List.drop_succ_cons, List.drop_zero, List.take_succ_cons, List.take_zero, List.set_cons_zero, List.set_cons_succ]; rfl) ?_))
    | ((with_reducible refine gSt ?_); (first | (refine eSt H rfl rfl ⟨.int _ _, rfl, ?_⟩) | (refine eSt H rfl rfl ⟨.bool _, rfl, ?_⟩) | (refine eSt H rfl rfl ⟨.slice _ _ _, rfl, ?_⟩) | (refine eSt H rfl rfl ⟨.pointer _, rfl, ?_⟩) | (refine eSt H rfl rfl ⟨.string _, rfl, ?_⟩) | (refine eSt H rfl rfl ⟨.agg (List.toArray _), rfl, ?_⟩)); (first | (refine kSt 0 rfl rfl (by first | exact T3 | exact T4 | exact T9 | exact T22 | exact T25 | exact T27 | exact T34) rfl (Nat.le_of_ble_eq_true rfl) ?_) | (refine kStA 0 rfl rfl (by first | exact T3 | exact T4 | exact T9 | exact T22 | exact T25 | exact T27 | exact T34) rfl rfl (Nat.le_of_ble_eq_true rfl) ?_)); clear H; intro w1 H; simp only [List.set_cons_zero, List.set_cons_succ] at H; (try simp only [lay, List.take_zero, List.nil_append, List.length_cons, List.length_nil, Nat.zero_add, Nat.reduceAdd, List.drop_succ_cons, List.drop_zero, List.drop_nil, List.append_nil, List.take_succ_cons, List.cons_append] at H))
    | ((with_reducible refine gBx ?_); refine bxA H rfl rfl rfl ?_; clear H; intro b1 w1 H)
    | ((with_reducible refine gBs ?_); (first | (refine bs1 H rfl (by first | exact S22) rfl (Nat.le_of_ble_eq_true rfl) (Nat.le_of_ble_eq_true rfl) rfl ?_) | (refine wl_buildSlice0 rfl (by first | exact S22) H ?_)); clear H; intro b1 w1 H)
    | ((with_reducible refine gEq ?_); (first | (refine wl_cmp rfl rfl rfl rfl ?_) | (refine wl_scmp rfl rfl rfl rfl ?_)); intro rb hrb; cases rb <;> (first | (exfalso; simp at hrb; done) | ((try simp only [decide_eq_true_eq, decide_eq_false_iff_not, beq_iff_eq, beq_eq_false_iff_ne, ne_eq, bne_iff_ne, bne_eq_false_iff_eq, Bool.not_eq_true', Bool.not_eq_false', gt_iff_lt, ge_iff_le, Int.not_lt, Int.not_le, Decidable.not_not] at hrb); (try subst hrb); (try (exfalso; omega)))))
    | ((with_reducible refine gAl ?_); (first | (refine al H Z34 rfl rfl ?_)); clear H; intro b1 w1 H)
    | ((with_reducible refine gRg ?_); refine wp_region_text rfl (by decide +kernel) ?_; replace H := H.drew)
    | ((with_reducible refine EndQ.intro ?_ ?_); (· kernel_rfl)))
        go_roundg (gk - 1)
        case measure => omega
        case rel => exact ⟨j + 1, ol + 1, _, _, out ++ [(yk, yv)], rfl, by go_num, by have := HJG.out; omega, Lib.hid (by rw [List.length_append, HOL.out]; rfl), by have := HOLB.out; omega, HI2, H⟩
      | false =>
        have C1 := Lib.hid c1
        have HI2 := Lib.hid (show del (l.take (j + 1)) k = out by rw [hst, if_neg (by rw [c1]; simp)])
        clear hy hst c1 hjg hol HI
        go_wp2_with (first
    | ((with_reducible refine gLd ?_); refine wl_loadR (k := j * 2) (hX [_] _ H) rfl rfl (by first | rfl | omega) T9 HK.out ?_)
    | ((with_reducible refine gEq ?_); refine wl_ocmp rfl rfl (by first | exact congrArg some C1.out) rfl ?_)
    | ((with_reducible refine gLd ?_); refine eLd H rfl rfl ?_; first | (refine kLd 0 rfl rfl (by first | exact T3 | exact T4 | exact T9 | exact T22 | exact T25 | exact T27 | exact T34) rfl ?_) | (refine kLdA 0 rfl rfl (by first | exact T3 | exact T4 | exact T9 | exact T22 | exact T25 | exact T27 | exact T34) (Nat.le_of_ble_eq_true rfl) (by simp only [List.drop_succ_cons, List.drop_zero, List.take_succ_cons, List.take_zero, List.set_cons_zero, List.set_cons_succ]; rfl) ?_))
    | ((with_reducible refine gSt ?_); (first | (refine eSt H rfl rfl ⟨.int _ _, rfl, ?_⟩) | (refine eSt H rfl rfl ⟨.bool _, rfl, ?_⟩) | (refine eSt H rfl rfl ⟨.slice _ _ _, rfl, ?_⟩) | (refine eSt H rfl rfl ⟨.pointer _, rfl, ?_⟩) | (refine eSt H rfl rfl ⟨.string _, rfl, ?_⟩) | (refine eSt H rfl rfl ⟨.agg (List.toArray _), rfl, ?_⟩)); (first | (refine kSt 0 rfl rfl (by first | exact T3 | exact T4 | exact T9 | exact T22 | exact T25 | exact T27 | exact T34) rfl (Nat.le_of_ble_eq_true rfl) ?_) | (refine kStA 0 rfl rfl (by first | exact T3 | exact T4 | exact T9 | exact T22 | exact T25 | exact T27 | exact T34) rfl rfl (Nat.le_of_ble_eq_true rfl) ?_)); clear H; intro w1 H; simp only [List.set_cons_zero, List.set_cons_succ] at H; (try simp only [lay, List.take_zero, List.nil_append, List.length_cons, List.length_nil, Nat.zero_add, Nat.reduceAdd, List.drop_succ_cons, List.drop_zero, List.drop_nil, List.append_nil, List.take_succ_cons, List.cons_append] at H))
    | ((with_reducible refine gBx ?_); refine bxA H rfl rfl rfl ?_; clear H; intro b1 w1 H)
    | ((with_reducible refine gBs ?_); (first | (refine bs1 H rfl (by first | exact S22) rfl (Nat.le_of_ble_eq_true rfl) (Nat.le_of_ble_eq_true rfl) rfl ?_) | (refine wl_buildSlice0 rfl (by first | exact S22) H ?_)); clear H; intro b1 w1 H)
    | ((with_reducible refine gEq ?_); (first | (refine wl_cmp rfl rfl rfl rfl ?_) | (refine wl_scmp rfl rfl rfl rfl ?_)); intro rb hrb; cases rb <;> (first | (exfalso; simp at hrb; done) | ((try simp only [decide_eq_true_eq, decide_eq_false_iff_not, beq_iff_eq, beq_eq_false_iff_ne, ne_eq, bne_iff_ne, bne_eq_false_iff_eq, Bool.not_eq_true', Bool.not_eq_false', gt_iff_lt, ge_iff_le, Int.not_lt, Int.not_le, Decidable.not_not] at hrb); (try subst hrb); (try (exfalso; omega)))))
    | ((with_reducible refine gAl ?_); (first | (refine al H Z34 rfl rfl ?_)); clear H; intro b1 w1 H)
    | ((with_reducible refine gRg ?_); refine wp_region_text rfl (by decide +kernel) ?_; replace H := H.drew)
    | ((with_reducible refine EndQ.intro ?_ ?_); (· kernel_rfl)))
        go_roundg (gk - 1)
        case measure => omega
        case rel => exact ⟨j + 1, ol, a, c', out, rfl, by go_num, by have := HJG.out; omega, HOL, by have := HOLB.out; omega, HI2, H⟩
    · have e : out = r := by rw [← HI.out, List.take_of_length_le (by rw [HN.out]; omega), HR.out]
      subst e
      have e2 := HOL.out
      subst e2
      clear hjg
      go_wp2_with (first
    | ((with_reducible refine gLd ?_); refine eLd H rfl rfl ?_; first | (refine kLd 0 rfl rfl (by first | exact T3 | exact T4 | exact T9 | exact T22 | exact T25 | exact T27 | exact T34) rfl ?_) | (refine kLdA 0 rfl rfl (by first | exact T3 | exact T4 | exact T9 | exact T22 | exact T25 | exact T27 | exact T34) (Nat.le_of_ble_eq_true rfl) (by simp only [List.drop_succ_cons, List.drop_zero, List.take_succ_cons, List.take_zero, List.set_cons_zero, List.set_cons_succ]; rfl) ?_))
    | ((with_reducible refine gSt ?_); (first | (refine eSt H rfl rfl ⟨.int _ _, rfl, ?_⟩) | (refine eSt H rfl rfl ⟨.bool _, rfl, ?_⟩) | (refine eSt H rfl rfl ⟨.slice _ _ _, rfl, ?_⟩) | (refine eSt H rfl rfl ⟨.pointer _, rfl, ?_⟩) | (refine eSt H rfl rfl ⟨.string _, rfl, ?_⟩) | (refine eSt H rfl rfl ⟨.agg (List.toArray _), rfl, ?_⟩)); (first | (refine kSt 0 rfl rfl (by first | exact T3 | exact T4 | exact T9 | exact T22 | exact T25 | exact T27 | exact T34) rfl (Nat.le_of_ble_eq_true rfl) ?_) | (refine kStA 0 rfl rfl (by first | exact T3 | exact T4 | exact T9 | exact T22 | exact T25 | exact T27 | exact T34) rfl rfl (Nat.le_of_ble_eq_true rfl) ?_)); clear H; intro w1 H; simp only [List.set_cons_zero, List.set_cons_succ] at H; (try simp only [lay, List.take_zero, List.nil_append, List.length_cons, List.length_nil, Nat.zero_add, Nat.reduceAdd, List.drop_succ_cons, List.drop_zero, List.drop_nil, List.append_nil, List.take_succ_cons, List.cons_append] at H))
    | ((with_reducible refine gBx ?_); refine bxA H rfl rfl rfl ?_; clear H; intro b1 w1 H)
    | ((with_reducible refine gBs ?_); (first | (refine bs1 H rfl (by first | exact S22) rfl (Nat.le_of_ble_eq_true rfl) (Nat.le_of_ble_eq_true rfl) rfl ?_) | (refine wl_buildSlice0 rfl (by first | exact S22) H ?_)); clear H; intro b1 w1 H)
    | ((with_reducible refine gEq ?_); (first | (refine wl_cmp rfl rfl rfl rfl ?_) | (refine wl_scmp rfl rfl rfl rfl ?_)); intro rb hrb; cases rb <;> (first | (exfalso; simp at hrb; done) | ((try simp only [decide_eq_true_eq, decide_eq_false_iff_not, beq_iff_eq, beq_eq_false_iff_ne, ne_eq, bne_iff_ne, bne_eq_false_iff_eq, Bool.not_eq_true', Bool.not_eq_false', gt_iff_lt, ge_iff_le, Int.not_lt, Int.not_le, Decidable.not_not] at hrb); (try subst hrb); (try (exfalso; omega)))))
    | ((with_reducible refine gAl ?_); (first | (refine al H Z34 rfl rfl ?_)); clear H; intro b1 w1 H)
    | ((with_reducible refine gRg ?_); refine wp_region_text rfl (by decide +kernel) ?_; replace H := H.drew)
    | ((with_reducible refine EndQ.intro ?_ ?_); (· kernel_rfl)))
      all_goals (go_ret; exact ⟨a, c', rfl, H⟩)
theorem G34 : Try.prog.eqGuardType Try.prog.depth 34 = false := by kernel_rfl
theorem eq34 (a : ByteArray) (b : Int) (w : World) : (Op.equalIn 10000 34 (.agg (List.toArray [.string a, .int .i64 b])) (.agg (List.toArray [.string a, .int .i64 b]))).run Try.prog w = .ok true w := by
  rw [show (10000 : Nat) = 9998 + 2 from rfl]
  go_simp
section
variable {w0 w : World} {D : Nat → Prop} {L : List Ent} {ops : Array Oper} {Q : Exit → Act → World → Prop} {a : Act} {rest : List Oper}
theorem run_ne34 {x1 : ByteArray} {x2 : Int} {u ty : TypeId} {dst : Option Tmp} {x y : Operand} {pos : String} {af : Array Edge} {g : Option (Nat × Bool)} (hx : a.eval x = .agg (List.toArray [.string x1, .int .i64 x2])) (hy : a.eval y = .agg (List.toArray [.string x1, .int .i64 x2])) :
    (execOp a.eval ⟨dst, .binOp .neq 34 x y u, ty, pos, af, g⟩).run Try.prog w = .ok (.value (.bool false)) w := run_neAgg G34 (eq34 x1 x2) hx hy
theorem wl_ne34 {x1 : ByteArray} {x2 : Int} {u ty : TypeId} {dst : Option Tmp} {x y : Operand} {pos : String} {af : Array Edge} {g : Option (Nat × Bool)} (hw : Region.wanted ⟨dst, .binOp .neq 34 x y u, ty, pos, af, g⟩ (yielded ops a.tmps) = true)
    (hx : a.eval x = .agg (List.toArray [.string x1, .int .i64 x2])) (hy : a.eval y = .agg (List.toArray [.string x1, .int .i64 x2]))
    (k : wpList Try.prog ops Q rest (a.put dst (.bool false)) w) : wpList Try.prog ops Q (⟨dst, .binOp .neq 34 x y u, ty, pos, af, g⟩ :: rest) a w := wl_run hw (run_ne34 hx hy) k
end
set_option maxHeartbeats 4000000 in
theorem Same_spec {w0 w : World} {D : Nat → Prop} {R : List Ent} {x y : Option Addr} {c d n : Nat} {l : Ents} (H : Hp w0 D (R) w) (hx : Rd w0 D R x (cellsE l)) (hy : Rd w0 D R y (cellsE l)) (hn : l.length = n) (hs : n ≤ 1000000) :
    Calls Try.prog 36 #[.slice x n c, .slice y n d] w fun e w' => e = .returned (.bool true) ∧ Hp w0 D R w' := by
  have HN := Lib.hid hn
  have HX := Lib.hid hx
  have HY := Lib.hid hy
  clear hn hx hy
  go_enter Try.func36, Try.ntmps36
  go_wp2_with (first
    | ((with_reducible refine gLd ?_); refine eLd H rfl rfl ?_; first | (refine kLd 0 rfl rfl (by first | exact T3 | exact T4 | exact T9 | exact T22 | exact T25 | exact T27 | exact T34) rfl ?_) | (refine kLdA 0 rfl rfl (by first | exact T3 | exact T4 | exact T9 | exact T22 | exact T25 | exact T27 | exact T34) (Nat.le_of_ble_eq_true rfl) (by simp only [List.drop_succ_cons, List.drop_zero, List.take_succ_cons, List.take_zero, List.set_cons_zero, List.set_cons_succ]; rfl) ?_))
    | ((with_reducible refine gSt ?_); (first | (refine eSt H rfl rfl ⟨.int _ _, rfl, ?_⟩) | (refine eSt H rfl rfl ⟨.bool _, rfl, ?_⟩) | (refine eSt H rfl rfl ⟨.slice _ _ _, rfl, ?_⟩) | (refine eSt H rfl rfl ⟨.pointer _, rfl, ?_⟩) | (refine eSt H rfl rfl ⟨.string _, rfl, ?_⟩) | (refine eSt H rfl rfl ⟨.agg (List.toArray _), rfl, ?_⟩)); (first | (refine kSt 0 rfl rfl (by first | exact T3 | exact T4 | exact T9 | exact T22 | exact T25 | exact T27 | exact T34) rfl (Nat.le_of_ble_eq_true rfl) ?_) | (refine kStA 0 rfl rfl (by first | exact T3 | exact T4 | exact T9 | exact T22 | exact T25 | exact T27 | exact T34) rfl rfl (Nat.le_of_ble_eq_true rfl) ?_)); clear H; intro w1 H; simp only [List.set_cons_zero, List.set_cons_succ] at H; (try simp only [lay, List.take_zero, List.nil_append, List.length_cons, List.length_nil, Nat.zero_add, Nat.reduceAdd, List.drop_succ_cons, List.drop_zero, List.drop_nil, List.append_nil, List.take_succ_cons, List.cons_append] at H))
    | ((with_reducible refine gBx ?_); refine bxA H rfl rfl rfl ?_; clear H; intro b1 w1 H)
    | ((with_reducible refine gBs ?_); (first | (refine bs1 H rfl (by first | exact S22) rfl (Nat.le_of_ble_eq_true rfl) (Nat.le_of_ble_eq_true rfl) rfl ?_) | (refine wl_buildSlice0 rfl (by first | exact S22) H ?_)); clear H; intro b1 w1 H)
    | ((with_reducible refine gEq ?_); (first | (refine wl_cmp rfl rfl rfl rfl ?_) | (refine wl_scmp rfl rfl rfl rfl ?_)); intro rb hrb; cases rb <;> (first | (exfalso; simp at hrb; done) | ((try simp only [decide_eq_true_eq, decide_eq_false_iff_not, beq_iff_eq, beq_eq_false_iff_ne, ne_eq, bne_iff_ne, bne_eq_false_iff_eq, Bool.not_eq_true', Bool.not_eq_false', gt_iff_lt, ge_iff_le, Int.not_lt, Int.not_le, Decidable.not_not] at hrb); (try subst hrb); (try (exfalso; omega)))))
    | ((with_reducible refine gAl ?_); (first | (refine al H Z34 rfl rfl ?_)); clear H; intro b1 w1 H)
    | ((with_reducible refine gRg ?_); refine wp_region_text rfl (by decide +kernel) ?_; replace H := H.drew)
    | ((with_reducible refine EndQ.intro ?_ ?_); (· kernel_rfl)))
  go_loopg [5] n (fun g v5 wr => ∃ j : Nat, v5 = .int .i64 (j : Int) ∧ j + g = n ∧ Hp w0 D R wr)
  case atStart => exact ⟨0, rfl, by omega, H⟩
  case round =>
    clear H
    obtain ⟨j, rfl, hjg, H⟩ := hrel
    by_cases hj : j < n
    · obtain ⟨⟨yk, yv⟩, hy⟩ : ∃ y, l[j]? = some y := ⟨_, List.getElem?_eq_getElem (by rw [HN.out]; exact hj)⟩
      obtain ⟨bx, ox, rfl, hA⟩ := HX.out.some_of (by rw [cellsE_len, HN.out]; omega)
      obtain ⟨by_, oy, rfl, hB⟩ := HY.out.some_of (by rw [cellsE_len, HN.out]; omega)
      have HG := Lib.hid (cellsE_pick hy)
      have hgp : 0 < gk := by omega
      clear hy
      go_wp2_with (first
    | ((with_reducible refine gLd ?_); first | (refine wl_loadR (k := j * 2) (hA [] _ H) rfl rfl (by first | rfl | omega) T34 HG.out ?_) | (refine wl_loadR (k := j * 2) (hB [] _ H) rfl rfl (by first | rfl | omega) T34 HG.out ?_))
    | ((with_reducible refine gEq ?_); refine wl_ne34 rfl rfl rfl ?_)
    | ((with_reducible refine gLd ?_); refine eLd H rfl rfl ?_; first | (refine kLd 0 rfl rfl (by first | exact T3 | exact T4 | exact T9 | exact T22 | exact T25 | exact T27 | exact T34) rfl ?_) | (refine kLdA 0 rfl rfl (by first | exact T3 | exact T4 | exact T9 | exact T22 | exact T25 | exact T27 | exact T34) (Nat.le_of_ble_eq_true rfl) (by simp only [List.drop_succ_cons, List.drop_zero, List.take_succ_cons, List.take_zero, List.set_cons_zero, List.set_cons_succ]; rfl) ?_))
    | ((with_reducible refine gSt ?_); (first | (refine eSt H rfl rfl ⟨.int _ _, rfl, ?_⟩) | (refine eSt H rfl rfl ⟨.bool _, rfl, ?_⟩) | (refine eSt H rfl rfl ⟨.slice _ _ _, rfl, ?_⟩) | (refine eSt H rfl rfl ⟨.pointer _, rfl, ?_⟩) | (refine eSt H rfl rfl ⟨.string _, rfl, ?_⟩) | (refine eSt H rfl rfl ⟨.agg (List.toArray _), rfl, ?_⟩)); (first | (refine kSt 0 rfl rfl (by first | exact T3 | exact T4 | exact T9 | exact T22 | exact T25 | exact T27 | exact T34) rfl (Nat.le_of_ble_eq_true rfl) ?_) | (refine kStA 0 rfl rfl (by first | exact T3 | exact T4 | exact T9 | exact T22 | exact T25 | exact T27 | exact T34) rfl rfl (Nat.le_of_ble_eq_true rfl) ?_)); clear H; intro w1 H; simp only [List.set_cons_zero, List.set_cons_succ] at H; (try simp only [lay, List.take_zero, List.nil_append, List.length_cons, List.length_nil, Nat.zero_add, Nat.reduceAdd, List.drop_succ_cons, List.drop_zero, List.drop_nil, List.append_nil, List.take_succ_cons, List.cons_append] at H))
    | ((with_reducible refine gBx ?_); refine bxA H rfl rfl rfl ?_; clear H; intro b1 w1 H)
    | ((with_reducible refine gBs ?_); (first | (refine bs1 H rfl (by first | exact S22) rfl (Nat.le_of_ble_eq_true rfl) (Nat.le_of_ble_eq_true rfl) rfl ?_) | (refine wl_buildSlice0 rfl (by first | exact S22) H ?_)); clear H; intro b1 w1 H)
    | ((with_reducible refine gEq ?_); (first | (refine wl_cmp rfl rfl rfl rfl ?_) | (refine wl_scmp rfl rfl rfl rfl ?_)); intro rb hrb; cases rb <;> (first | (exfalso; simp at hrb; done) | ((try simp only [decide_eq_true_eq, decide_eq_false_iff_not, beq_iff_eq, beq_eq_false_iff_ne, ne_eq, bne_iff_ne, bne_eq_false_iff_eq, Bool.not_eq_true', Bool.not_eq_false', gt_iff_lt, ge_iff_le, Int.not_lt, Int.not_le, Decidable.not_not] at hrb); (try subst hrb); (try (exfalso; omega)))))
    | ((with_reducible refine gAl ?_); (first | (refine al H Z34 rfl rfl ?_)); clear H; intro b1 w1 H)
    | ((with_reducible refine gRg ?_); refine wp_region_text rfl (by decide +kernel) ?_; replace H := H.drew)
    | ((with_reducible refine EndQ.intro ?_ ?_); (· kernel_rfl)))
      all_goals
        go_roundg (gk - 1)
        case measure => omega
        case rel => exact ⟨j + 1, by go_num, by omega, H⟩
    · obtain rfl : j = n := by omega
      go_wp2_with (first
    | ((with_reducible refine gLd ?_); refine eLd H rfl rfl ?_; first | (refine kLd 0 rfl rfl (by first | exact T3 | exact T4 | exact T9 | exact T22 | exact T25 | exact T27 | exact T34) rfl ?_) | (refine kLdA 0 rfl rfl (by first | exact T3 | exact T4 | exact T9 | exact T22 | exact T25 | exact T27 | exact T34) (Nat.le_of_ble_eq_true rfl) (by simp only [List.drop_succ_cons, List.drop_zero, List.take_succ_cons, List.take_zero, List.set_cons_zero, List.set_cons_succ]; rfl) ?_))
    | ((with_reducible refine gSt ?_); (first | (refine eSt H rfl rfl ⟨.int _ _, rfl, ?_⟩) | (refine eSt H rfl rfl ⟨.bool _, rfl, ?_⟩) | (refine eSt H rfl rfl ⟨.slice _ _ _, rfl, ?_⟩) | (refine eSt H rfl rfl ⟨.pointer _, rfl, ?_⟩) | (refine eSt H rfl rfl ⟨.string _, rfl, ?_⟩) | (refine eSt H rfl rfl ⟨.agg (List.toArray _), rfl, ?_⟩)); (first | (refine kSt 0 rfl rfl (by first | exact T3 | exact T4 | exact T9 | exact T22 | exact T25 | exact T27 | exact T34) rfl (Nat.le_of_ble_eq_true rfl) ?_) | (refine kStA 0 rfl rfl (by first | exact T3 | exact T4 | exact T9 | exact T22 | exact T25 | exact T27 | exact T34) rfl rfl (Nat.le_of_ble_eq_true rfl) ?_)); clear H; intro w1 H; simp only [List.set_cons_zero, List.set_cons_succ] at H; (try simp only [lay, List.take_zero, List.nil_append, List.length_cons, List.length_nil, Nat.zero_add, Nat.reduceAdd, List.drop_succ_cons, List.drop_zero, List.drop_nil, List.append_nil, List.take_succ_cons, List.cons_append] at H))
    | ((with_reducible refine gBx ?_); refine bxA H rfl rfl rfl ?_; clear H; intro b1 w1 H)
    | ((with_reducible refine gBs ?_); (first | (refine bs1 H rfl (by first | exact S22) rfl (Nat.le_of_ble_eq_true rfl) (Nat.le_of_ble_eq_true rfl) rfl ?_) | (refine wl_buildSlice0 rfl (by first | exact S22) H ?_)); clear H; intro b1 w1 H)
    | ((with_reducible refine gEq ?_); (first | (refine wl_cmp rfl rfl rfl rfl ?_) | (refine wl_scmp rfl rfl rfl rfl ?_)); intro rb hrb; cases rb <;> (first | (exfalso; simp at hrb; done) | ((try simp only [decide_eq_true_eq, decide_eq_false_iff_not, beq_iff_eq, beq_eq_false_iff_ne, ne_eq, bne_iff_ne, bne_eq_false_iff_eq, Bool.not_eq_true', Bool.not_eq_false', gt_iff_lt, ge_iff_le, Int.not_lt, Int.not_le, Decidable.not_not] at hrb); (try subst hrb); (try (exfalso; omega)))))
    | ((with_reducible refine gAl ?_); (first | (refine al H Z34 rfl rfl ?_)); clear H; intro b1 w1 H)
    | ((with_reducible refine gRg ?_); refine wp_region_text rfl (by decide +kernel) ?_; replace H := H.drew)
    | ((with_reducible refine EndQ.intro ?_ ?_); (· kernel_rfl)))
      all_goals (go_ret; exact ⟨rfl, H⟩)
section
variable {P : Program} {w : World} {a : Act} {ops : Array Oper} {Q : Exit → Act → World → Prop} {rest : List Oper}
theorem run_quoB {m : Nat} {r : Nat} {dst : Option Tmp} {t u ty : TypeId} {x y : Operand} {pos : String} {af : Array Edge} {g : Option (Nat × Bool)} (hx : a.eval x = .int .i64 (m : Int)) (hy : a.eval y = .int .i64 2) (hr : m / 2 = r) (hm : m ≤ 1000000) :
    (execOp a.eval ⟨dst, .binOp .quo t x y u, ty, pos, af, g⟩).run P w = .ok (.value (.int .i64 (r : Int))) w := by
  subst hr
  have h1 : Int.tdiv (m : Int) 2 = ((m / 2 : Nat) : Int) := by rw [Int.tdiv_eq_ediv_of_nonneg (by omega)]; omega
  have e := conv64 (m := ((m / 2 : Nat) : Int)) (by omega) (by omega)
  simp [execOp, hx, hy, eqGuard, binOp, Op.intArith, Op.intDiv]
  exact conv64 (by omega) (by omega)
theorem wl_quoB {m r : Nat} {dst : Option Tmp} {t u ty : TypeId} {x y : Operand} {pos : String} {af : Array Edge} {g : Option (Nat × Bool)}
    (hw : Region.wanted ⟨dst, .binOp .quo t x y u, ty, pos, af, g⟩ (yielded ops a.tmps) = true) (hx : a.eval x = .int .i64 (m : Int)) (hy : a.eval y = .int .i64 2) (hr : m / 2 = r) (hm : m ≤ 1000000)
    (k : wpList P ops Q rest (a.put dst (.int .i64 (r : Int))) w) : wpList P ops Q (⟨dst, .binOp .quo t x y u, ty, pos, af, g⟩ :: rest) a w := wl_run hw (run_quoB hx hy hr hm) k
theorem gQuB {dst : Option Tmp} {t u ty : TypeId} {x y : Operand} {pos : String} {af : Array Edge} {g : Option (Nat × Bool)} (k : wpList P ops Q (⟨dst, .binOp .quo t x y u, ty, pos, af, g⟩ :: rest) a w) : wpList P ops Q (⟨dst, .binOp .quo t x y u, ty, pos, af, g⟩ :: rest) a w := k
end
theorem bits_le (n : Nat) : Kp.bits n ≤ n := by
  induction n using Nat.strongRecOn with
  | _ n ih =>
    unfold Kp.bits
    split
    · omega
    · have := ih (n / 2) (by omega); omega
set_option maxHeartbeats 4000000 in
theorem Bits_spec {w0 w : World} {D : Nat → Prop} {R : List Ent} {n r : Nat} (H : Hp w0 D (R) w) (hn : n ≤ 1000000) (hr : Kp.bits n = r) :
    Calls Try.prog 74 #[.int .i64 (n : Int)] w fun e w' => e = .returned (.int .i64 (r : Int)) ∧ Hp w0 D R w' := by
  have HR := Lib.hid (show 0 + Kp.bits n = r by omega)
  have hrn : r ≤ n := by rw [← hr]; exact bits_le n
  clear hr
  go_enter Try.func74, Try.ntmps74
  go_wp2_with (first
    | ((with_reducible refine gLd ?_); refine eLd H rfl rfl ?_; first | (refine kLd 0 rfl rfl (by first | exact T3 | exact T4 | exact T9 | exact T22 | exact T25 | exact T27 | exact T34) rfl ?_) | (refine kLdA 0 rfl rfl (by first | exact T3 | exact T4 | exact T9 | exact T22 | exact T25 | exact T27 | exact T34) (Nat.le_of_ble_eq_true rfl) (by simp only [List.drop_succ_cons, List.drop_zero, List.take_succ_cons, List.take_zero, List.set_cons_zero, List.set_cons_succ]; rfl) ?_))
    | ((with_reducible refine gSt ?_); (first | (refine eSt H rfl rfl ⟨.int _ _, rfl, ?_⟩) | (refine eSt H rfl rfl ⟨.bool _, rfl, ?_⟩) | (refine eSt H rfl rfl ⟨.slice _ _ _, rfl, ?_⟩) | (refine eSt H rfl rfl ⟨.pointer _, rfl, ?_⟩) | (refine eSt H rfl rfl ⟨.string _, rfl, ?_⟩) | (refine eSt H rfl rfl ⟨.agg (List.toArray _), rfl, ?_⟩)); (first | (refine kSt 0 rfl rfl (by first | exact T3 | exact T4 | exact T9 | exact T22 | exact T25 | exact T27 | exact T34) rfl (Nat.le_of_ble_eq_true rfl) ?_) | (refine kStA 0 rfl rfl (by first | exact T3 | exact T4 | exact T9 | exact T22 | exact T25 | exact T27 | exact T34) rfl rfl (Nat.le_of_ble_eq_true rfl) ?_)); clear H; intro w1 H; simp only [List.set_cons_zero, List.set_cons_succ] at H; (try simp only [lay, List.take_zero, List.nil_append, List.length_cons, List.length_nil, Nat.zero_add, Nat.reduceAdd, List.drop_succ_cons, List.drop_zero, List.drop_nil, List.append_nil, List.take_succ_cons, List.cons_append] at H))
    | ((with_reducible refine gBx ?_); refine bxA H rfl rfl rfl ?_; clear H; intro b1 w1 H)
    | ((with_reducible refine gBs ?_); (first | (refine bs1 H rfl (by first | exact S22) rfl (Nat.le_of_ble_eq_true rfl) (Nat.le_of_ble_eq_true rfl) rfl ?_) | (refine wl_buildSlice0 rfl (by first | exact S22) H ?_)); clear H; intro b1 w1 H)
    | ((with_reducible refine gEq ?_); (first | (refine wl_cmp rfl rfl rfl rfl ?_) | (refine wl_scmp rfl rfl rfl rfl ?_)); intro rb hrb; cases rb <;> (first | (exfalso; simp at hrb; done) | ((try simp only [decide_eq_true_eq, decide_eq_false_iff_not, beq_iff_eq, beq_eq_false_iff_ne, ne_eq, bne_iff_ne, bne_eq_false_iff_eq, Bool.not_eq_true', Bool.not_eq_false', gt_iff_lt, ge_iff_le, Int.not_lt, Int.not_le, Decidable.not_not] at hrb); (try subst hrb); (try (exfalso; omega)))))
    | ((with_reducible refine gAl ?_); (first | (refine al H Z34 rfl rfl ?_)); clear H; intro b1 w1 H)
    | ((with_reducible refine gRg ?_); refine wp_region_text rfl (by decide +kernel) ?_; replace H := H.drew)
    | ((with_reducible refine EndQ.intro ?_ ?_); (· kernel_rfl)))
  go_loopg [0, 3] n (fun g v0 v3 wr => ∃ (m k : Nat), v0 = .int .i64 (m : Int) ∧ v3 = .int .i64 (k : Int) ∧ m = g ∧ m ≤ n ∧ Hid (k + Kp.bits m = r) ∧ Hp w0 D R wr)
  case atStart => exact ⟨n, 0, rfl, rfl, rfl, Nat.le_refl _, HR, H⟩
  case round =>
    clear H HR
    obtain ⟨m, k, rfl, rfl, hmg, hmn, HB, H⟩ := hrel
    by_cases hm : 0 < m
    · obtain ⟨q, hq⟩ : ∃ q, m / 2 = q := ⟨_, rfl⟩
      have HQ := Lib.hid hq
      have hb : k + 1 + Kp.bits q = r := by
        have h := HB.out
        unfold Kp.bits at h
        rw [if_neg (by omega), hq] at h
        omega
      have HB2 := Lib.hid hb
      have hkr : k ≤ r := by omega
      have hqm : q < m := by omega
      have hgp : 0 < gk := by omega
      have HG := Lib.hid hmg
      clear hq hb hmg HB
      go_wp2_with (first
    | ((with_reducible refine gQuB ?_); refine wl_quoB (m := m) (r := q) rfl rfl rfl HQ.out (by omega) ?_)
    | ((with_reducible refine gLd ?_); refine eLd H rfl rfl ?_; first | (refine kLd 0 rfl rfl (by first | exact T3 | exact T4 | exact T9 | exact T22 | exact T25 | exact T27 | exact T34) rfl ?_) | (refine kLdA 0 rfl rfl (by first | exact T3 | exact T4 | exact T9 | exact T22 | exact T25 | exact T27 | exact T34) (Nat.le_of_ble_eq_true rfl) (by simp only [List.drop_succ_cons, List.drop_zero, List.take_succ_cons, List.take_zero, List.set_cons_zero, List.set_cons_succ]; rfl) ?_))
    | ((with_reducible refine gSt ?_); (first | (refine eSt H rfl rfl ⟨.int _ _, rfl, ?_⟩) | (refine eSt H rfl rfl ⟨.bool _, rfl, ?_⟩) | (refine eSt H rfl rfl ⟨.slice _ _ _, rfl, ?_⟩) | (refine eSt H rfl rfl ⟨.pointer _, rfl, ?_⟩) | (refine eSt H rfl rfl ⟨.string _, rfl, ?_⟩) | (refine eSt H rfl rfl ⟨.agg (List.toArray _), rfl, ?_⟩)); (first | (refine kSt 0 rfl rfl (by first | exact T3 | exact T4 | exact T9 | exact T22 | exact T25 | exact T27 | exact T34) rfl (Nat.le_of_ble_eq_true rfl) ?_) | (refine kStA 0 rfl rfl (by first | exact T3 | exact T4 | exact T9 | exact T22 | exact T25 | exact T27 | exact T34) rfl rfl (Nat.le_of_ble_eq_true rfl) ?_)); clear H; intro w1 H; simp only [List.set_cons_zero, List.set_cons_succ] at H; (try simp only [lay, List.take_zero, List.nil_append, List.length_cons, List.length_nil, Nat.zero_add, Nat.reduceAdd, List.drop_succ_cons, List.drop_zero, List.drop_nil, List.append_nil, List.take_succ_cons, List.cons_append] at H))
    | ((with_reducible refine gBx ?_); refine bxA H rfl rfl rfl ?_; clear H; intro b1 w1 H)
    | ((with_reducible refine gBs ?_); (first | (refine bs1 H rfl (by first | exact S22) rfl (Nat.le_of_ble_eq_true rfl) (Nat.le_of_ble_eq_true rfl) rfl ?_) | (refine wl_buildSlice0 rfl (by first | exact S22) H ?_)); clear H; intro b1 w1 H)
    | ((with_reducible refine gEq ?_); (first | (refine wl_cmp rfl rfl rfl rfl ?_) | (refine wl_scmp rfl rfl rfl rfl ?_)); intro rb hrb; cases rb <;> (first | (exfalso; simp at hrb; done) | ((try simp only [decide_eq_true_eq, decide_eq_false_iff_not, beq_iff_eq, beq_eq_false_iff_ne, ne_eq, bne_iff_ne, bne_eq_false_iff_eq, Bool.not_eq_true', Bool.not_eq_false', gt_iff_lt, ge_iff_le, Int.not_lt, Int.not_le, Decidable.not_not] at hrb); (try subst hrb); (try (exfalso; omega)))))
    | ((with_reducible refine gAl ?_); (first | (refine al H Z34 rfl rfl ?_)); clear H; intro b1 w1 H)
    | ((with_reducible refine gRg ?_); refine wp_region_text rfl (by decide +kernel) ?_; replace H := H.drew)
    | ((with_reducible refine EndQ.intro ?_ ?_); (· kernel_rfl)))
      go_roundg q
      case measure => have := HG.out; omega
      case rel => exact ⟨q, k + 1, rfl, by go_num, rfl, by omega, HB2, H⟩
    · have e0 : m = 0 := by omega
      subst e0
      have e : k = r := by have h := HB.out; unfold Kp.bits at h; simpa using h
      subst e
      clear hmg
      go_wp2_with (first
    | ((with_reducible refine gLd ?_); refine eLd H rfl rfl ?_; first | (refine kLd 0 rfl rfl (by first | exact T3 | exact T4 | exact T9 | exact T22 | exact T25 | exact T27 | exact T34) rfl ?_) | (refine kLdA 0 rfl rfl (by first | exact T3 | exact T4 | exact T9 | exact T22 | exact T25 | exact T27 | exact T34) (Nat.le_of_ble_eq_true rfl) (by simp only [List.drop_succ_cons, List.drop_zero, List.take_succ_cons, List.take_zero, List.set_cons_zero, List.set_cons_succ]; rfl) ?_))
    | ((with_reducible refine gSt ?_); (first | (refine eSt H rfl rfl ⟨.int _ _, rfl, ?_⟩) | (refine eSt H rfl rfl ⟨.bool _, rfl, ?_⟩) | (refine eSt H rfl rfl ⟨.slice _ _ _, rfl, ?_⟩) | (refine eSt H rfl rfl ⟨.pointer _, rfl, ?_⟩) | (refine eSt H rfl rfl ⟨.string _, rfl, ?_⟩) | (refine eSt H rfl rfl ⟨.agg (List.toArray _), rfl, ?_⟩)); (first | (refine kSt 0 rfl rfl (by first | exact T3 | exact T4 | exact T9 | exact T22 | exact T25 | exact T27 | exact T34) rfl (Nat.le_of_ble_eq_true rfl) ?_) | (refine kStA 0 rfl rfl (by first | exact T3 | exact T4 | exact T9 | exact T22 | exact T25 | exact T27 | exact T34) rfl rfl (Nat.le_of_ble_eq_true rfl) ?_)); clear H; intro w1 H; simp only [List.set_cons_zero, List.set_cons_succ] at H; (try simp only [lay, List.take_zero, List.nil_append, List.length_cons, List.length_nil, Nat.zero_add, Nat.reduceAdd, List.drop_succ_cons, List.drop_zero, List.drop_nil, List.append_nil, List.take_succ_cons, List.cons_append] at H))
    | ((with_reducible refine gBx ?_); refine bxA H rfl rfl rfl ?_; clear H; intro b1 w1 H)
    | ((with_reducible refine gBs ?_); (first | (refine bs1 H rfl (by first | exact S22) rfl (Nat.le_of_ble_eq_true rfl) (Nat.le_of_ble_eq_true rfl) rfl ?_) | (refine wl_buildSlice0 rfl (by first | exact S22) H ?_)); clear H; intro b1 w1 H)
    | ((with_reducible refine gEq ?_); (first | (refine wl_cmp rfl rfl rfl rfl ?_) | (refine wl_scmp rfl rfl rfl rfl ?_)); intro rb hrb; cases rb <;> (first | (exfalso; simp at hrb; done) | ((try simp only [decide_eq_true_eq, decide_eq_false_iff_not, beq_iff_eq, beq_eq_false_iff_ne, ne_eq, bne_iff_ne, bne_eq_false_iff_eq, Bool.not_eq_true', Bool.not_eq_false', gt_iff_lt, ge_iff_le, Int.not_lt, Int.not_le, Decidable.not_not] at hrb); (try subst hrb); (try (exfalso; omega)))))
    | ((with_reducible refine gAl ?_); (first | (refine al H Z34 rfl rfl ?_)); clear H; intro b1 w1 H)
    | ((with_reducible refine gRg ?_); refine wp_region_text rfl (by decide +kernel) ?_; replace H := H.drew)
    | ((with_reducible refine EndQ.intro ?_ ?_); (· kernel_rfl)))
      all_goals (go_ret; exact ⟨rfl, H⟩)
theorem Z22 : zI Try.prog 22 = some (.slice none 0 0) := by kernel_rfl
theorem eqf31 {fn : Fn} {cs bs : Array Value} (w : World) : (Op.equalIn 10000 31 (.func fn cs bs) .nilFunc).run Try.prog w = .ok false w := by
  rw [show (10000 : Nat) = 9999 + 1 from rfl]
  unfold Op.equalIn
  simp only [Sem.run_bind, run_underlying Try.underlying31, Result.andThen_ok]
  rfl
theorem run_nilF {w : World} {a : Act} {fn : Fn} {cs bs : Array Value} {u ty : TypeId} {dst : Option Tmp} {x y : Operand} {pos : String} {af : Array Edge} {g : Option (Nat × Bool)} (hx : a.eval x = .func fn cs bs) (hy : a.eval y = .nilFunc) :
    (execOp a.eval ⟨dst, .binOp .eql 31 x y u, ty, pos, af, g⟩).run Try.prog w = .ok (.value (.bool false)) w := by
  simp [execOp, hx, hy, eqGuard, binOp, Op.equal, Op.maxDepth, eqf31]
theorem wl_nilF {w : World} {a : Act} {ops : Array Oper} {Q : Exit → Act → World → Prop} {rest : List Oper} {fn : Fn} {cs bs : Array Value} {u ty : TypeId} {dst : Option Tmp} {x y : Operand} {pos : String} {af : Array Edge} {g : Option (Nat × Bool)}
    (hw : Region.wanted ⟨dst, .binOp .eql 31 x y u, ty, pos, af, g⟩ (yielded ops a.tmps) = true) (hx : a.eval x = .func fn cs bs) (hy : a.eval y = .nilFunc)
    (k : wpList Try.prog ops Q rest (a.put dst (.bool false)) w) : wpList Try.prog ops Q (⟨dst, .binOp .eql 31 x y u, ty, pos, af, g⟩ :: rest) a w := wl_run hw (run_nilF hx hy) k
def EPost (w0 : World) (D : Nat → Prop) (M Z : List Ent) (l : Ents) (n : Nat) (e : Ending) (w' : World) : Prop :=
  ∃ (a : Option Nat) (c : Nat) (Z' : List Ent), e = .returned (.slice (adr a 0) n c) ∧ Xt Z Z' ∧ Hp w0 D (M ++ (eE a c l :: Z')) w'
set_option maxHeartbeats 4000000 in
theorem entries_spec {w0 w : World} {D : Nat → Prop} {M Z : List Ent} {t : T ByteArray Int} {p : Option Nat} {n : Nat} (H : Hp w0 D (M ++ Z) w) (ht : Td hS w0 D Z t p) (hn : t.size = n) (hs : n ≤ 100000) :
    Calls Try.prog 37 #[mapV p] w fun e w' => EPost w0 D M Z t.list n e w' := by
  refine (callsIn_wide (n := 0)).1 (callsIn_of_wp_marks Try.func37 rfl trivial (wpIn_wide.2 ?_) rfl)
  simp only [Try.ntmps37, List.size_toArray, List.length_cons, List.length_nil, Nat.reduceAdd, Nat.reduceSub, Array.replicate_succ, Array.replicate_zero, List.push_toArray, List.append_toArray, List.nil_append, List.cons_append]
  go_wp2_with (first
    | ((with_reducible refine gAl ?_); refine wl_alloc rfl Z22 H ?_; clear H; intro b2 w1 H; replace H : Hp w0 D (⟨some b2, [.slice none 0 0], 22, 1⟩ :: _) w1 := H)
    | ((with_reducible refine gEq ?_); refine wl_nilF rfl rfl rfl ?_)
    | (go_at_call 15; have H2 : Hp w0 D ((_ :: _ :: M) ++ Z) _ := H; ((with_reducible refine (AllS_spec H2).mono ?_); rintro e w1 ⟨bx, Z1, rfl, hx1, hbx, H1⟩; clear H H2; have H := H1; clear H1; simp only [List.cons_append] at H))
    | ((with_reducible refine gLd ?_); refine eLd H rfl rfl ?_; first | (refine kLd 0 rfl rfl (by first | exact T3 | exact T4 | exact T9 | exact T22 | exact T25 | exact T27 | exact T34) rfl ?_) | (refine kLd 1 rfl rfl (by first | exact T3 | exact T4 | exact T9 | exact T22 | exact T25 | exact T27 | exact T34) rfl ?_) | (refine kLd 2 rfl rfl (by first | exact T3 | exact T4 | exact T9 | exact T22 | exact T25 | exact T27 | exact T34) rfl ?_) | (refine kLdA 0 rfl rfl (by first | exact T3 | exact T4 | exact T9 | exact T22 | exact T25 | exact T27 | exact T34) (Nat.le_of_ble_eq_true rfl) (by simp only [List.drop_succ_cons, List.drop_zero, List.take_succ_cons, List.take_zero, List.set_cons_zero, List.set_cons_succ]; rfl) ?_) | (refine kLdA 1 rfl rfl (by first | exact T3 | exact T4 | exact T9 | exact T22 | exact T25 | exact T27 | exact T34) (Nat.le_of_ble_eq_true rfl) (by simp only [List.drop_succ_cons, List.drop_zero, List.take_succ_cons, List.take_zero, List.set_cons_zero, List.set_cons_succ]; rfl) ?_) | (refine kLdA 2 rfl rfl (by first | exact T3 | exact T4 | exact T9 | exact T22 | exact T25 | exact T27 | exact T34) (Nat.le_of_ble_eq_true rfl) (by simp only [List.drop_succ_cons, List.drop_zero, List.take_succ_cons, List.take_zero, List.set_cons_zero, List.set_cons_succ]; rfl) ?_))
    | ((with_reducible refine gSt ?_); (first | (refine eSt H rfl rfl ⟨.int _ _, rfl, ?_⟩) | (refine eSt H rfl rfl ⟨.bool _, rfl, ?_⟩) | (refine eSt H rfl rfl ⟨.slice _ _ _, rfl, ?_⟩) | (refine eSt H rfl rfl ⟨.pointer _, rfl, ?_⟩) | (refine eSt H rfl rfl ⟨.string _, rfl, ?_⟩) | (refine eSt H rfl rfl ⟨.agg (List.toArray _), rfl, ?_⟩)); (first | (refine kSt 0 rfl rfl (by first | exact T3 | exact T4 | exact T9 | exact T22 | exact T25 | exact T27 | exact T34) rfl (Nat.le_of_ble_eq_true rfl) ?_) | (refine kSt 1 rfl rfl (by first | exact T3 | exact T4 | exact T9 | exact T22 | exact T25 | exact T27 | exact T34) rfl (Nat.le_of_ble_eq_true rfl) ?_) | (refine kSt 2 rfl rfl (by first | exact T3 | exact T4 | exact T9 | exact T22 | exact T25 | exact T27 | exact T34) rfl (Nat.le_of_ble_eq_true rfl) ?_) | (refine kStA 0 rfl rfl (by first | exact T3 | exact T4 | exact T9 | exact T22 | exact T25 | exact T27 | exact T34) rfl rfl (Nat.le_of_ble_eq_true rfl) ?_) | (refine kStA 1 rfl rfl (by first | exact T3 | exact T4 | exact T9 | exact T22 | exact T25 | exact T27 | exact T34) rfl rfl (Nat.le_of_ble_eq_true rfl) ?_) | (refine kStA 2 rfl rfl (by first | exact T3 | exact T4 | exact T9 | exact T22 | exact T25 | exact T27 | exact T34) rfl rfl (Nat.le_of_ble_eq_true rfl) ?_)); clear H; intro w1 H; simp only [List.set_cons_zero, List.set_cons_succ] at H; (try simp only [lay, List.take_zero, List.nil_append, List.length_cons, List.length_nil, Nat.zero_add, Nat.reduceAdd, List.drop_succ_cons, List.drop_zero, List.drop_nil, List.append_nil, List.take_succ_cons, List.cons_append] at H))
    | ((with_reducible refine gBx ?_); refine bxA H rfl rfl rfl ?_; clear H; intro b1 w1 H)
    | ((with_reducible refine gBs ?_); (first | (refine bs1 H rfl (by first | exact S22) rfl (Nat.le_of_ble_eq_true rfl) (Nat.le_of_ble_eq_true rfl) rfl ?_) | (refine wl_buildSlice0 rfl (by first | exact S22) H ?_)); clear H; intro b1 w1 H)
    | ((with_reducible refine gEq ?_); (first | (refine wl_cmp rfl rfl rfl rfl ?_) | (refine wl_scmp rfl rfl rfl rfl ?_)); intro rb hrb; cases rb <;> (first | (exfalso; simp at hrb; done) | ((try simp only [decide_eq_true_eq, decide_eq_false_iff_not, beq_iff_eq, beq_eq_false_iff_ne, ne_eq, bne_iff_ne, bne_eq_false_iff_eq, Bool.not_eq_true', Bool.not_eq_false', gt_iff_lt, ge_iff_le, Int.not_lt, Int.not_le, Decidable.not_not] at hrb); (try subst hrb); (try (exfalso; omega)))))
    | ((with_reducible refine gAl ?_); (first | (refine al H Z34 rfl rfl ?_)); clear H; intro b1 w1 H)
    | ((with_reducible refine gRg ?_); refine wp_region_text rfl (by decide +kernel) ?_; replace H := H.drew)
    | ((with_reducible refine EndQ.intro ?_ ?_); (· kernel_rfl)))
  have H9 := Hp.swap (A := [_]) (B := [_]) (H.consNone 34)
  clear H
  have HT := ht.ext hx1
  have HL := (T.list_length t).trans hn
  refine wpIn_wide.1 (wp_rf1 (M := _ :: _ :: _ :: M) (Z := Z1) H9 rfl (enters_of Try.func63 (by kernel_rfl) rfl) (AllS_seq hbx HT) (fun _ => rfl) (fun pre L => ∃ (a : Option Nat) (c : Nat), L = ⟨some b2, [.slice (adr a 0) pre.length c], 22, 1⟩ :: eE a c pre :: ⟨some b1, [ptr p], 27, 1⟩ :: M) (fun _ _ _ => False) ⟨none, 0, rfl⟩ (fun x => { tmps := #[mapV p, .pointer (some ⟨b1, 0, none⟩), .slice none 0 0, .pointer (some ⟨b2, 0, none⟩), .func (.func 63) #[] #[.pointer (some ⟨bx, 0, none⟩)], .string x.1, .int .i64 x.2, .agg #[ptr p], .func (.func 63) #[] #[.pointer (some ⟨bx, 0, none⟩)], .func (.func 63) #[] #[.pointer (some ⟨bx, 0, none⟩)], .bool false, undef, undef, .func (.func 63) #[] #[.pointer (some ⟨bx, 0, none⟩)], .string x.1, .int .i64 x.2, undef, undef, undef, undef, undef, undef, undef], defers := [] }) ?assign ?body ?done ?stop)
  case assign =>
    intro l x w1' K hK
    refine wpIn_seq (wpIn_reg (by decide) ?_)
    go_wp2
    refine nq_intro ?_
    refine wpIn_reg (by decide) ?_
    go_wp2
    refine nq_intro ?_
    exact hK
  case body =>
    rintro l pre x post L w1' D1 hfull ⟨a, c, rfl⟩ X H1 hr hnd hle
    have hlen : pre.length ≤ 100000 := by have := congrArg List.length hfull; simp at this; omega
    have H := H1
    clear H1
    simp only [List.cons_append] at H
    apply wpIn_block
    refine wpIn_reg (by decide) ?_
    go_wp2_with (first
    | ((with_reducible refine gBs ?_); refine bs1 (vs := [.string x.1, .int .i64 x.2]) H rfl S22 rfl (by decide) (by decide) rfl ?_; clear H; intro bs1 w1 H)
    | ((with_reducible refine gAp ?_); refine wl_append 2 0 rfl H rfl rfl rfl rfl S22 (by decide) (Or.inl rfl) (by rw [cellsE_len]) rfl (fun h => by cases h) (Nat.le_of_ble_eq_true rfl) (by simp [Value.oneCell']) (by unfold maxLen; omega) (by omega) ?_; clear H; intro ae' ce' w1 H h0; clear h0; simp only [List.set_cons_zero, List.set_cons_succ, List.drop_zero, Nat.one_mul, List.take_succ_cons, List.take_zero] at H; rw [cellsE_snoc] at H; replace H := H.drop)
    | ((with_reducible refine gLd ?_); refine eLd H rfl rfl ?_; first | (refine kLd 0 rfl rfl (by first | exact T3 | exact T4 | exact T9 | exact T22 | exact T25 | exact T27 | exact T34) rfl ?_) | (refine kLd 1 rfl rfl (by first | exact T3 | exact T4 | exact T9 | exact T22 | exact T25 | exact T27 | exact T34) rfl ?_) | (refine kLd 2 rfl rfl (by first | exact T3 | exact T4 | exact T9 | exact T22 | exact T25 | exact T27 | exact T34) rfl ?_) | (refine kLdA 0 rfl rfl (by first | exact T3 | exact T4 | exact T9 | exact T22 | exact T25 | exact T27 | exact T34) (Nat.le_of_ble_eq_true rfl) (by simp only [List.drop_succ_cons, List.drop_zero, List.take_succ_cons, List.take_zero, List.set_cons_zero, List.set_cons_succ]; rfl) ?_) | (refine kLdA 1 rfl rfl (by first | exact T3 | exact T4 | exact T9 | exact T22 | exact T25 | exact T27 | exact T34) (Nat.le_of_ble_eq_true rfl) (by simp only [List.drop_succ_cons, List.drop_zero, List.take_succ_cons, List.take_zero, List.set_cons_zero, List.set_cons_succ]; rfl) ?_) | (refine kLdA 2 rfl rfl (by first | exact T3 | exact T4 | exact T9 | exact T22 | exact T25 | exact T27 | exact T34) (Nat.le_of_ble_eq_true rfl) (by simp only [List.drop_succ_cons, List.drop_zero, List.take_succ_cons, List.take_zero, List.set_cons_zero, List.set_cons_succ]; rfl) ?_))
    | ((with_reducible refine gSt ?_); (first | (refine eSt H rfl rfl ⟨.int _ _, rfl, ?_⟩) | (refine eSt H rfl rfl ⟨.bool _, rfl, ?_⟩) | (refine eSt H rfl rfl ⟨.slice _ _ _, rfl, ?_⟩) | (refine eSt H rfl rfl ⟨.pointer _, rfl, ?_⟩) | (refine eSt H rfl rfl ⟨.string _, rfl, ?_⟩) | (refine eSt H rfl rfl ⟨.agg (List.toArray _), rfl, ?_⟩)); (first | (refine kSt 0 rfl rfl (by first | exact T3 | exact T4 | exact T9 | exact T22 | exact T25 | exact T27 | exact T34) rfl (Nat.le_of_ble_eq_true rfl) ?_) | (refine kSt 1 rfl rfl (by first | exact T3 | exact T4 | exact T9 | exact T22 | exact T25 | exact T27 | exact T34) rfl (Nat.le_of_ble_eq_true rfl) ?_) | (refine kSt 2 rfl rfl (by first | exact T3 | exact T4 | exact T9 | exact T22 | exact T25 | exact T27 | exact T34) rfl (Nat.le_of_ble_eq_true rfl) ?_) | (refine kStA 0 rfl rfl (by first | exact T3 | exact T4 | exact T9 | exact T22 | exact T25 | exact T27 | exact T34) rfl rfl (Nat.le_of_ble_eq_true rfl) ?_) | (refine kStA 1 rfl rfl (by first | exact T3 | exact T4 | exact T9 | exact T22 | exact T25 | exact T27 | exact T34) rfl rfl (Nat.le_of_ble_eq_true rfl) ?_) | (refine kStA 2 rfl rfl (by first | exact T3 | exact T4 | exact T9 | exact T22 | exact T25 | exact T27 | exact T34) rfl rfl (Nat.le_of_ble_eq_true rfl) ?_)); clear H; intro w1 H; simp only [List.set_cons_zero, List.set_cons_succ] at H; (try simp only [lay, List.take_zero, List.nil_append, List.length_cons, List.length_nil, Nat.zero_add, Nat.reduceAdd, List.drop_succ_cons, List.drop_zero, List.drop_nil, List.append_nil, List.take_succ_cons, List.cons_append] at H))
    | ((with_reducible refine gBx ?_); refine bxA H rfl rfl rfl ?_; clear H; intro b1 w1 H)
    | ((with_reducible refine gBs ?_); (first | (refine bs1 H rfl (by first | exact S22) rfl (Nat.le_of_ble_eq_true rfl) (Nat.le_of_ble_eq_true rfl) rfl ?_) | (refine wl_buildSlice0 rfl (by first | exact S22) H ?_)); clear H; intro b1 w1 H)
    | ((with_reducible refine gEq ?_); (first | (refine wl_cmp rfl rfl rfl rfl ?_) | (refine wl_scmp rfl rfl rfl rfl ?_)); intro rb hrb; cases rb <;> (first | (exfalso; simp at hrb; done) | ((try simp only [decide_eq_true_eq, decide_eq_false_iff_not, beq_iff_eq, beq_eq_false_iff_ne, ne_eq, bne_iff_ne, bne_eq_false_iff_eq, Bool.not_eq_true', Bool.not_eq_false', gt_iff_lt, ge_iff_le, Int.not_lt, Int.not_le, Decidable.not_not] at hrb); (try subst hrb); (try (exfalso; omega)))))
    | ((with_reducible refine gAl ?_); (first | (refine al H Z34 rfl rfl ?_)); clear H; intro b1 w1 H)
    | ((with_reducible refine gRg ?_); refine wp_region_text rfl (by decide +kernel) ?_; replace H := H.drew)
    | ((with_reducible refine EndQ.intro ?_ ?_); (· kernel_rfl)))
    refine nq_intro ⟨_, ⟨ae', ce', rfl⟩, ?_⟩
    rw [show (pre ++ [x]).length = pre.length + 1 by simp]
    exact H
  case done =>
    rintro k L w1' D1 ⟨a, c, rfl⟩ X H1 hm
    have H := H1
    clear H1
    simp only [List.cons_append, HL] at H
    go_wp2_with (first
    | ((with_reducible refine gLd ?_); refine eLd H rfl rfl ?_; first | (refine kLd 0 rfl rfl (by first | exact T3 | exact T4 | exact T9 | exact T22 | exact T25 | exact T27 | exact T34) rfl ?_) | (refine kLd 1 rfl rfl (by first | exact T3 | exact T4 | exact T9 | exact T22 | exact T25 | exact T27 | exact T34) rfl ?_) | (refine kLd 2 rfl rfl (by first | exact T3 | exact T4 | exact T9 | exact T22 | exact T25 | exact T27 | exact T34) rfl ?_) | (refine kLdA 0 rfl rfl (by first | exact T3 | exact T4 | exact T9 | exact T22 | exact T25 | exact T27 | exact T34) (Nat.le_of_ble_eq_true rfl) (by simp only [List.drop_succ_cons, List.drop_zero, List.take_succ_cons, List.take_zero, List.set_cons_zero, List.set_cons_succ]; rfl) ?_) | (refine kLdA 1 rfl rfl (by first | exact T3 | exact T4 | exact T9 | exact T22 | exact T25 | exact T27 | exact T34) (Nat.le_of_ble_eq_true rfl) (by simp only [List.drop_succ_cons, List.drop_zero, List.take_succ_cons, List.take_zero, List.set_cons_zero, List.set_cons_succ]; rfl) ?_) | (refine kLdA 2 rfl rfl (by first | exact T3 | exact T4 | exact T9 | exact T22 | exact T25 | exact T27 | exact T34) (Nat.le_of_ble_eq_true rfl) (by simp only [List.drop_succ_cons, List.drop_zero, List.take_succ_cons, List.take_zero, List.set_cons_zero, List.set_cons_succ]; rfl) ?_))
    | ((with_reducible refine gSt ?_); (first | (refine eSt H rfl rfl ⟨.int _ _, rfl, ?_⟩) | (refine eSt H rfl rfl ⟨.bool _, rfl, ?_⟩) | (refine eSt H rfl rfl ⟨.slice _ _ _, rfl, ?_⟩) | (refine eSt H rfl rfl ⟨.pointer _, rfl, ?_⟩) | (refine eSt H rfl rfl ⟨.string _, rfl, ?_⟩) | (refine eSt H rfl rfl ⟨.agg (List.toArray _), rfl, ?_⟩)); (first | (refine kSt 0 rfl rfl (by first | exact T3 | exact T4 | exact T9 | exact T22 | exact T25 | exact T27 | exact T34) rfl (Nat.le_of_ble_eq_true rfl) ?_) | (refine kSt 1 rfl rfl (by first | exact T3 | exact T4 | exact T9 | exact T22 | exact T25 | exact T27 | exact T34) rfl (Nat.le_of_ble_eq_true rfl) ?_) | (refine kSt 2 rfl rfl (by first | exact T3 | exact T4 | exact T9 | exact T22 | exact T25 | exact T27 | exact T34) rfl (Nat.le_of_ble_eq_true rfl) ?_) | (refine kStA 0 rfl rfl (by first | exact T3 | exact T4 | exact T9 | exact T22 | exact T25 | exact T27 | exact T34) rfl rfl (Nat.le_of_ble_eq_true rfl) ?_) | (refine kStA 1 rfl rfl (by first | exact T3 | exact T4 | exact T9 | exact T22 | exact T25 | exact T27 | exact T34) rfl rfl (Nat.le_of_ble_eq_true rfl) ?_) | (refine kStA 2 rfl rfl (by first | exact T3 | exact T4 | exact T9 | exact T22 | exact T25 | exact T27 | exact T34) rfl rfl (Nat.le_of_ble_eq_true rfl) ?_)); clear H; intro w1 H; simp only [List.set_cons_zero, List.set_cons_succ] at H; (try simp only [lay, List.take_zero, List.nil_append, List.length_cons, List.length_nil, Nat.zero_add, Nat.reduceAdd, List.drop_succ_cons, List.drop_zero, List.drop_nil, List.append_nil, List.take_succ_cons, List.cons_append] at H))
    | ((with_reducible refine gBx ?_); refine bxA H rfl rfl rfl ?_; clear H; intro b1 w1 H)
    | ((with_reducible refine gBs ?_); (first | (refine bs1 H rfl (by first | exact S22) rfl (Nat.le_of_ble_eq_true rfl) (Nat.le_of_ble_eq_true rfl) rfl ?_) | (refine wl_buildSlice0 rfl (by first | exact S22) H ?_)); clear H; intro b1 w1 H)
    | ((with_reducible refine gEq ?_); (first | (refine wl_cmp rfl rfl rfl rfl ?_) | (refine wl_scmp rfl rfl rfl rfl ?_)); intro rb hrb; cases rb <;> (first | (exfalso; simp at hrb; done) | ((try simp only [decide_eq_true_eq, decide_eq_false_iff_not, beq_iff_eq, beq_eq_false_iff_ne, ne_eq, bne_iff_ne, bne_eq_false_iff_eq, Bool.not_eq_true', Bool.not_eq_false', gt_iff_lt, ge_iff_le, Int.not_lt, Int.not_le, Decidable.not_not] at hrb); (try subst hrb); (try (exfalso; omega)))))
    | ((with_reducible refine gAl ?_); (first | (refine al H Z34 rfl rfl ?_)); clear H; intro b1 w1 H)
    | ((with_reducible refine gRg ?_); refine wp_region_text rfl (by decide +kernel) ?_; replace H := H.drew)
    | ((with_reducible refine EndQ.intro ?_ ?_); (· kernel_rfl)))
    refine leave1t hm X H rfl rfl rfl fun u hu => ?_
    exact ⟨a, c, Z1, rfl, hx1, Hp.sink ((hu.drop).dropAt 1)⟩
  case stop => exact fun _ _ _ _ _ _ _ _ h => h.elim

end Go.Proofs.Ytgnmjeajmnmobaa
