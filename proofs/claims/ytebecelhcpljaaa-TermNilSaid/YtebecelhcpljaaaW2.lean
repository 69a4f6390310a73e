/- What functions of layer 5 compute. -/
import Derived.Test.YtebecelhcpljaaaW1
import Derived.WalkKit
import Derived.Lib.Hide
import Derived.Deep.LoopGhost
import Derived.WalkSpells
set_option linter.unusedVariables false
set_option linter.unusedSimpArgs false
namespace Go.Proofs.Ytebecelhcpljaaa
open Go.RowKit Go.Gx Go.Gx.Trm
set_option maxRecDepth 100000
theorem gIx {P : Program} {ops : Array Oper} {Q : Exit → Act → World → Prop} {a : Act} {w : World} {rest : List Oper} {dst : Option Tmp} {t ty : TypeId} {x i : Operand} {pos : String} {af : Array Edge} {g : Option (Nat × Bool)}
    (h : wpList P ops Q (⟨dst, .index t x i, ty, pos, af, g⟩ :: rest) a w) : wpList P ops Q (⟨dst, .index t x i, ty, pos, af, g⟩ :: rest) a w := h
theorem wl_ix122 {ops : Array Oper} {Q : Exit → Act → World → Prop} {a : Act} {w : World} {rest : List Oper} {dst : Option Tmp} {ty : TypeId} {x i : Operand} {pos : String} {af : Array Edge} {g : Option (Nat × Bool)} {k : Int} (h1 : 1 ≤ k) (h2 : k ≤ 9)
    (hw : Region.wanted ⟨dst, .index 122 x i, ty, pos, af, g⟩ (yielded ops a.tmps) = true) (hx : a.eval x = .agg shAll.toArray) (hi : a.eval i = .int .i64 k)
    (h : wpList Try.prog ops Q rest (a.put dst (.agg (shRow k).toArray)) w) : wpList Try.prog ops Q (⟨dst, .index 122 x i, ty, pos, af, g⟩ :: rest) a w :=
  wl_run hw (run_index hx hi (idx122 k h1 h2 w)) h
theorem shRow_len (k : Int) : (shRow k).length = 5 := by unfold shRow; split <;> rfl
theorem kOk_yes {k : Int} (h1 : 1 ≤ k) (h2 : k ≤ 9) : kOk k = true := by simp [kOk, h1, h2]
theorem kOk_lo {k : Int} (h1 : k < 1) : kOk k = false := by simp [kOk]; omega
theorem kOk_hi {k : Int} (h1 : 9 < k) : kOk k = false := by simp [kOk]; omega
theorem kOk_cases (k : Int) : (k < 1 ∧ kOk k = false) ∨ (1 ≤ k ∧ k ≤ 9 ∧ kOk k = true) ∨ (1 ≤ k ∧ 9 < k ∧ kOk k = false) := by
  by_cases h1 : 1 ≤ k
  · by_cases h2 : k ≤ 9
    · exact .inr (.inl ⟨h1, h2, kOk_yes h1 h2⟩)
    · exact .inr (.inr ⟨h1, by omega, kOk_hi (by omega)⟩)
  · exact .inl ⟨by omega, kOk_lo (by omega)⟩
theorem shRow_no {k : Int} (h : kOk k = false) : shRow k = [.bool false, .bool false, .bool false, .bool false, .int .i64 0] := by simp [shRow, h]
/-- the five cells of a shape -/
theorem shRow_yes {k : Int} (h : kOk k = true) : shRow k = [.bool (named k), .bool (two k), .bool (k == 2), .bool (k == 3), .int .i64 (kidsN k)] := by simp [shRow, h]
set_option maxHeartbeats 4000000 in
theorem Node_nil {w0 w : World} {D : Nat → Prop} {R : List Ent}  (H : Hp w0 D (R) w) (t : Int) :
    Calls Try.prog 30 #[.pointer none, .int .i64 t] w fun e w' => e = .returned (.tuple #[.agg Nd.zero.cells.toArray, .bool false]) ∧ Hp w0 D (R) w' := by
  all_goals (try simp only [Nd.cells, Nd.zero, eP, eE] at H)
  all_goals (try simp only [Nd.cells, Nd.zero, eP, eE])
  all_goals go_enter Try.func30, Try.ntmps30
  go_wp2_with (first
    | (go_at_call 53; ((with_reducible refine (in_nil H t).mono ?_); rintro e w1 ⟨rfl, H1⟩; clear H; have H := H1; clear H1))
    | ((with_reducible refine gSt ?_); (first | (refine eSt H rfl rfl ⟨.int _ _, rfl, ?_⟩) | (refine eSt H rfl rfl ⟨.bool _, rfl, ?_⟩) | (refine eSt H rfl rfl ⟨.slice _ _ _, rfl, ?_⟩) | (refine eSt H rfl rfl ⟨.pointer _, rfl, ?_⟩) | (refine eSt H rfl rfl ⟨.string _, rfl, ?_⟩) | (refine eSt H rfl rfl ⟨.agg (List.toArray _), rfl, ?_⟩)); (first | ((repeat ((with_reducible refine gES ?_); first | (refine kSt 0 rfl rfl (by exact TT _ rfl) rfl (Nat.le_of_ble_eq_true rfl) ?_) | (refine kStA 0 rfl rfl (by exact TT _ rfl) rfl rfl (Nat.le_of_ble_eq_true rfl) ?_) | (refine nxS ?_))); fail_if_success (with_reducible refine gES ?_))); clear H; intro w1 H; simp only [List.set_cons_zero, List.set_cons_succ] at H; (try simp only [lay, LS1, Nat.reduceAdd] at H))
    | ((with_reducible refine gAl ?_); (first | (refine al H Z33 rfl rfl ?_) | (refine al H Z110 rfl rfl ?_) | (refine al H Z122 rfl rfl ?_)); clear H; intro b1 w1 H))
  all_goals refine ret_ct (vs := [_, _, _, _, _, _, _]) 0 H rfl rfl rfl rfl rfl rfl T33 (Nat.le_of_ble_eq_true rfl) rfl ⟨rfl, H.drop⟩
set_option maxHeartbeats 4000000 in
theorem Node_no {w0 w : World} {D : Nat → Prop} {R : List Ent} {p mb : Nat} {a : Option Nat} {c : Nat} {l : List En} (H : Hp w0 D (R) w) {i : Nat} (hp : R[i]? = some (eP p mb a c l)) {t : Int} (hi : inP l t = false) :
    Calls Try.prog 30 #[.pointer (some ⟨p, 0, none⟩), .int .i64 t] w fun e w' => e = .returned (.tuple #[.agg Nd.zero.cells.toArray, .bool false]) ∧ Hp w0 D (R) w' := by
  have HI := Lib.hid hi
  clear hi
  all_goals (try simp only [Nd.cells, Nd.zero, eP, eE] at H)
  all_goals (try simp only [Nd.cells, Nd.zero, eP, eE])
  all_goals go_enter Try.func30, Try.ntmps30
  go_wp2_with (first
    | (go_at_call 53; (refine (in_at (i := i + 1) H hp _).mono ?_; rintro e w1 ⟨rfl, H1⟩; clear H; have H := H1; clear H1; (try rw [HI.out])))
    | ((with_reducible refine gSt ?_); (first | (refine eSt H rfl rfl ⟨.int _ _, rfl, ?_⟩) | (refine eSt H rfl rfl ⟨.bool _, rfl, ?_⟩) | (refine eSt H rfl rfl ⟨.slice _ _ _, rfl, ?_⟩) | (refine eSt H rfl rfl ⟨.pointer _, rfl, ?_⟩) | (refine eSt H rfl rfl ⟨.string _, rfl, ?_⟩) | (refine eSt H rfl rfl ⟨.agg (List.toArray _), rfl, ?_⟩)); (first | ((repeat ((with_reducible refine gES ?_); first | (refine kSt 0 rfl rfl (by exact TT _ rfl) rfl (Nat.le_of_ble_eq_true rfl) ?_) | (refine kStA 0 rfl rfl (by exact TT _ rfl) rfl rfl (Nat.le_of_ble_eq_true rfl) ?_) | (refine nxS ?_))); fail_if_success (with_reducible refine gES ?_))); clear H; intro w1 H; simp only [List.set_cons_zero, List.set_cons_succ] at H; (try simp only [lay, LS1, Nat.reduceAdd] at H))
    | ((with_reducible refine gAl ?_); (first | (refine al H Z33 rfl rfl ?_) | (refine al H Z110 rfl rfl ?_) | (refine al H Z122 rfl rfl ?_)); clear H; intro b1 w1 H))
  all_goals refine ret_ct (vs := [_, _, _, _, _, _, _]) 0 H rfl rfl rfl rfl rfl rfl T33 (Nat.le_of_ble_eq_true rfl) rfl ⟨rfl, H.drop⟩
set_option maxHeartbeats 4000000 in
theorem Node_some {w0 w : World} {D : Nat → Prop} {R : List Ent} {p mb : Nat} {a : Nat} {c : Nat} {l : List En} (H : Hp w0 D (R) w) {i : Nat} (hp : R[i]? = some (eP p mb (some a) c l)) {j : Nat} (hq : R[j]? = some (eE (some a) c l)) {k : Nat} {x : En} (hl : l.length ≤ 65536) (hk : k < l.length) (he : l[k]? = some x) :
    Calls Try.prog 30 #[.pointer (some ⟨p, 0, none⟩), .int .i64 ((k : Int) + 1)] w fun e w' => e = .returned (.tuple #[.agg x.n.cells.toArray, .bool true]) ∧ Hp w0 D (R) w' := by
  obtain ⟨⟨x1, x2, x3, x4, x5, x6, x7⟩, x8, x9⟩ := x
  have hk0 : (0 : Int) ≤ k := by omega
  have hk1 : (k : Int) < 65536 := by omega
  have hw : wrap64 (k : Int) = k := by unfold wrap64; omega
  have HI := Lib.hid (show inP l ((k : Int) + 1) = true from inP_yes (by omega) (by omega))
  have HE := Lib.hid (rowsE_node he)
  have HL2 := Lib.hid (show k * 9 + 7 ≤ (rowsE l).length by rw [rowsE_length]; omega)
  have hlc : l.length ≤ c := by have h5 : (rowsE l).length ≤ c * 9 := H.le (i := j) hq; rw [rowsE_length] at h5; omega
  clear he
  all_goals (try simp only [Nd.cells, Nd.zero, eP, eE] at H)
  all_goals (try simp only [Nd.cells, Nd.zero, eP, eE])
  all_goals go_enter Try.func30, Try.ntmps30
  go_wp2_with (first
    | (go_at_call 53; (refine (in_at (i := i + 1) H hp _).mono ?_; rintro e w1 ⟨rfl, H1⟩; clear H; have H := H1; clear H1; (try rw [HI.out])))
    | ((with_reducible refine gLd ?_); refine eLd H rfl rfl ?_; refine kLd (i + 1) hp rfl T79 rfl ?_)
    | ((with_reducible refine gLd ?_); refine eLd H rfl rfl ?_; refine kLdA (j + 1) hq rfl T33 HL2.out HE.out ?_; (try simp only [Nd.cells]))
    | ((with_reducible refine gSt ?_); (first | (refine eSt H rfl rfl ⟨.int _ _, rfl, ?_⟩) | (refine eSt H rfl rfl ⟨.bool _, rfl, ?_⟩) | (refine eSt H rfl rfl ⟨.slice _ _ _, rfl, ?_⟩) | (refine eSt H rfl rfl ⟨.pointer _, rfl, ?_⟩) | (refine eSt H rfl rfl ⟨.string _, rfl, ?_⟩) | (refine eSt H rfl rfl ⟨.agg (List.toArray _), rfl, ?_⟩)); (first | ((repeat ((with_reducible refine gES ?_); first | (refine kSt 0 rfl rfl (by exact TT _ rfl) rfl (Nat.le_of_ble_eq_true rfl) ?_) | (refine kStA 0 rfl rfl (by exact TT _ rfl) rfl rfl (Nat.le_of_ble_eq_true rfl) ?_) | (refine nxS ?_))); fail_if_success (with_reducible refine gES ?_))); clear H; intro w1 H; simp only [List.set_cons_zero, List.set_cons_succ] at H; (try simp only [lay, LS1, Nat.reduceAdd] at H))
    | ((with_reducible refine gAl ?_); (first | (refine al H Z33 rfl rfl ?_) | (refine al H Z110 rfl rfl ?_) | (refine al H Z122 rfl rfl ?_)); clear H; intro b1 w1 H))
  all_goals refine ret_ct (vs := [_, _, _, _, _, _, _]) 0 H rfl rfl rfl rfl rfl rfl T33 (Nat.le_of_ble_eq_true rfl) rfl ⟨rfl, H.drop⟩
set_option maxHeartbeats 4000000 in
theorem shapes_spec {w0 w : World} {D : Nat → Prop} {R : List Ent}  (H : Hp w0 D (R) w)  :
    Calls Try.prog 86 #[] w fun e w' => e = .returned (.agg shAll.toArray) ∧ Hp w0 D (R) w' := by
  all_goals (try simp only [Nd.cells, Nd.zero, eP, eE] at H)
  all_goals (try simp only [Nd.cells, Nd.zero, eP, eE])
  all_goals go_enter Try.func86, Try.ntmps86
  go_wp2_with (first
    | ((with_reducible refine gSt ?_); (first | (refine eSt H rfl rfl ⟨.int _ _, rfl, ?_⟩) | (refine eSt H rfl rfl ⟨.bool _, rfl, ?_⟩) | (refine eSt H rfl rfl ⟨.slice _ _ _, rfl, ?_⟩) | (refine eSt H rfl rfl ⟨.pointer _, rfl, ?_⟩) | (refine eSt H rfl rfl ⟨.string _, rfl, ?_⟩) | (refine eSt H rfl rfl ⟨.agg (List.toArray _), rfl, ?_⟩)); (first | ((repeat ((with_reducible refine gES ?_); first | (refine kSt 0 rfl rfl (by exact TT _ rfl) rfl (Nat.le_of_ble_eq_true rfl) ?_) | (refine kStA 0 rfl rfl (by exact TT _ rfl) rfl rfl (Nat.le_of_ble_eq_true rfl) ?_) | (refine nxS ?_))); fail_if_success (with_reducible refine gES ?_))); clear H; intro w1 H; simp only [List.set_cons_zero, List.set_cons_succ] at H; (try simp only [lay, LS1, Nat.reduceAdd] at H))
    | ((with_reducible refine gAl ?_); (first | (refine al H Z33 rfl rfl ?_) | (refine al H Z110 rfl rfl ?_) | (refine al H Z122 rfl rfl ?_)); clear H; intro b1 w1 H))
  refine ret_c 0 H rfl rfl rfl rfl rfl T122 (Nat.le_of_ble_eq_true rfl) rfl ⟨rfl, H.drop⟩
set_option maxHeartbeats 4000000 in
theorem shapeOf_spec {w0 w : World} {D : Nat → Prop} {R : List Ent}  (H : Hp w0 D (R) w) (k : Int) :
    Calls Try.prog 80 #[.int .i64 k] w fun e w' => e = .returned (.tuple #[.agg (shRow k).toArray, .bool (kOk k)]) ∧ Hp w0 D (R) w' := by
  rcases kOk_cases k with ⟨h1, h3⟩ | ⟨h1, h2, h3⟩ | ⟨h1, h2, h3⟩
  all_goals (try simp only [Nd.cells, Nd.zero, eP, eE] at H)
  all_goals (try simp only [Nd.cells, Nd.zero, eP, eE])
  case inr.inl =>
    rw [h3, shRow_yes h3]
    have hS := Lib.hid (shRow_yes h3)
    clear h3
    go_enter Try.func80, Try.ntmps80
    go_wp2_with (first
    | (go_at_call 86; ((with_reducible refine (shapes_spec H).mono ?_); rintro e w1 ⟨rfl, H1⟩; clear H; have H := H1; clear H1))
    | ((with_reducible refine gIx ?_); refine wl_ix122 h1 h2 rfl rfl rfl ?_; rw [hS.out])
    | ((with_reducible refine gSt ?_); (first | (refine eSt H rfl rfl ⟨.int _ _, rfl, ?_⟩) | (refine eSt H rfl rfl ⟨.bool _, rfl, ?_⟩) | (refine eSt H rfl rfl ⟨.slice _ _ _, rfl, ?_⟩) | (refine eSt H rfl rfl ⟨.pointer _, rfl, ?_⟩) | (refine eSt H rfl rfl ⟨.string _, rfl, ?_⟩) | (refine eSt H rfl rfl ⟨.agg (List.toArray _), rfl, ?_⟩)); (first | ((repeat ((with_reducible refine gES ?_); first | (refine kSt 0 rfl rfl (by exact TT _ rfl) rfl (Nat.le_of_ble_eq_true rfl) ?_) | (refine kStA 0 rfl rfl (by exact TT _ rfl) rfl rfl (Nat.le_of_ble_eq_true rfl) ?_) | (refine nxS ?_))); fail_if_success (with_reducible refine gES ?_))); clear H; intro w1 H; simp only [List.set_cons_zero, List.set_cons_succ] at H; (try simp only [lay, LS1, Nat.reduceAdd] at H))
    | ((with_reducible refine gEq ?_); (first | (refine wl_cmp rfl rfl rfl rfl ?_) | (refine wl_scmp rfl rfl rfl rfl ?_)); intro rb hrb; cases rb <;> (first | (exfalso; simp at hrb; done) | ((try simp only [CS1, gt_iff_lt, ge_iff_le, ne_eq, Decidable.not_not] at hrb); (try subst hrb); (try (exfalso; omega)))))
    | ((with_reducible refine gAl ?_); (first | (refine al H Z33 rfl rfl ?_) | (refine al H Z110 rfl rfl ?_) | (refine al H Z122 rfl rfl ?_)); clear H; intro b1 w1 H))
    all_goals refine ret_ct (vs := [_, _, _, _, _]) 0 H rfl rfl rfl rfl rfl rfl T110 (Nat.le_of_ble_eq_true rfl) rfl ⟨rfl, H.drop⟩
  all_goals rw [h3, shRow_no h3]
  all_goals clear h3
  all_goals go_enter Try.func80, Try.ntmps80
  all_goals go_wp2_with (first
    | ((with_reducible refine gSt ?_); (first | (refine eSt H rfl rfl ⟨.int _ _, rfl, ?_⟩) | (refine eSt H rfl rfl ⟨.bool _, rfl, ?_⟩) | (refine eSt H rfl rfl ⟨.slice _ _ _, rfl, ?_⟩) | (refine eSt H rfl rfl ⟨.pointer _, rfl, ?_⟩) | (refine eSt H rfl rfl ⟨.string _, rfl, ?_⟩) | (refine eSt H rfl rfl ⟨.agg (List.toArray _), rfl, ?_⟩)); (first | ((repeat ((with_reducible refine gES ?_); first | (refine kSt 0 rfl rfl (by exact TT _ rfl) rfl (Nat.le_of_ble_eq_true rfl) ?_) | (refine kStA 0 rfl rfl (by exact TT _ rfl) rfl rfl (Nat.le_of_ble_eq_true rfl) ?_) | (refine nxS ?_))); fail_if_success (with_reducible refine gES ?_))); clear H; intro w1 H; simp only [List.set_cons_zero, List.set_cons_succ] at H; (try simp only [lay, LS1, Nat.reduceAdd] at H))
    | ((with_reducible refine gEq ?_); (first | (refine wl_cmp rfl rfl rfl rfl ?_) | (refine wl_scmp rfl rfl rfl rfl ?_)); intro rb hrb; cases rb <;> (first | (exfalso; simp at hrb; done) | ((try simp only [CS1, gt_iff_lt, ge_iff_le, ne_eq, Decidable.not_not] at hrb); (try subst hrb); (try (exfalso; omega)))))
    | ((with_reducible refine gAl ?_); (first | (refine al H Z33 rfl rfl ?_) | (refine al H Z110 rfl rfl ?_) | (refine al H Z122 rfl rfl ?_)); clear H; intro b1 w1 H))
  all_goals refine ret_ct (vs := [_, _, _, _, _]) 0 H rfl rfl rfl rfl rfl rfl T110 (Nat.le_of_ble_eq_true rfl) rfl ⟨rfl, H.drop⟩
end Go.Proofs.Ytebecelhcpljaaa
