/- The document's pool: New, In, Size, Depth, Node, Has. -/
import Derived.Test.YtebecelhcpljaaaW13
import Derived.Test.YtebecelhcpljaaaW11
import Derived.WalkKit
import Derived.Lib.Hide
import Derived.Deep.LoopGhost
import Derived.WalkSpells
set_option linter.unusedVariables false
set_option linter.unusedSimpArgs false
namespace Go.Proofs.Ytebecelhcpljaaa
open Go.RowKit Go.Gx Go.Gx.Trm
set_option maxRecDepth 100000
def sizesV (l : List En) : List Value := l.map fun e => .int .i64 e.size
def deepsV (l : List En) : List Value := l.map fun e => .int .i64 e.deep
theorem sizesV_len (l : List En) : (sizesV l).length = l.length := by simp [sizesV]
theorem deepsV_len (l : List En) : (deepsV l).length = l.length := by simp [deepsV]
theorem sizesV_at {l : List En} {k : Nat} {x : En} (h : l[k]? = some x) : (sizesV l)[k]? = some (.int .i64 x.size) := by simp [sizesV, h]
theorem deepsV_at {l : List En} {k : Nat} {x : En} (h : l[k]? = some x) : (deepsV l)[k]? = some (.int .i64 x.deep) := by simp [deepsV, h]
theorem nodesV_at {l : List En} {k : Nat} {x : En} (h : l[k]? = some x) : ((rowsN (l.map En.n)).drop (k * 7)).take 7 = x.n.cells := rowsN_at (by simp [h])
theorem nodesV_len (l : List En) : (rowsN (l.map En.n)).length = l.length * 7 := by rw [rowsN_length, List.length_map]
abbrev eQ (p : Nat) (b s d : Option Nat) (cb cs cd : Nat) (l : List En) : Ent := ⟨some p, [.slice (adr b 0) l.length cb, .slice (adr s 0) l.length cs, .slice (adr d 0) l.length cd], 43, 3⟩
abbrev eQn (b : Option Nat) (c : Nat) (l : List En) : Ent := ⟨b, rowsN (l.map En.n), 33, c * 7⟩
abbrev eQs (b : Option Nat) (c : Nat) (l : List En) : Ent := ⟨b, sizesV l, 3, c⟩
abbrev eQd (b : Option Nat) (c : Nat) (l : List En) : Ent := ⟨b, deepsV l, 3, c⟩
theorem run_eqN {w : World} {a : Act} {n m : Nd} {r : Bool} {u ty : TypeId} {dst : Option Tmp} {x y : Operand} {pos : String} {af : Array Edge} {g : Option (Nat × Bool)} (hb : n.beq m = r) (hx : a.eval x = .agg n.cells.toArray) (hy : a.eval y = .agg m.cells.toArray) :
    (execOp a.eval ⟨dst, .binOp .eql 33 x y u, ty, pos, af, g⟩).run Try.prog w = .ok (.value (.bool r)) w := by
  have h := run_eqAgg (w := w) (u := u) (dst := dst) (ty := ty) (pos := pos) (af := af) (g := g) G33 (eq33 9998 n m) hx hy
  rw [hb] at h
  exact h
theorem wl_eqN {w : World} {a : Act} {ops : Array Oper} {Q : Exit → Act → World → Prop} {rest : List Oper} {n m : Nd} {r : Bool} {u ty : TypeId} {dst : Option Tmp} {x y : Operand} {pos : String} {af : Array Edge} {g : Option (Nat × Bool)}
    (hw : Region.wanted ⟨dst, .binOp .eql 33 x y u, ty, pos, af, g⟩ (yielded ops a.tmps) = true) (hb : n.beq m = r) (hx : a.eval x = .agg n.cells.toArray) (hy : a.eval y = .agg m.cells.toArray)
    (k : wpList Try.prog ops Q rest (a.put dst (.bool r)) w) : wpList Try.prog ops Q (⟨dst, .binOp .eql 33 x y u, ty, pos, af, g⟩ :: rest) a w := wl_run hw (run_eqN hb hx hy) k
def RNew (w0 : World) (D : Nat → Prop) (R : List Ent) (e : Ending) (w' : World) : Prop := ∃ p, e = .returned (.pointer (some ⟨p, 0, none⟩)) ∧ Hp w0 D (eQ p none none none 0 0 0 [] :: eQn none 0 [] :: eQs none 0 [] :: eQd none 0 [] :: R) w'
set_option maxHeartbeats 4000000 in
theorem rNew_spec {w0 w : World} {D : Nat → Prop} {R : List Ent}  (H : Hp w0 D (R) w)  :
    Calls Try.prog 13 #[] w fun e w' => RNew w0 D R e w' := by
  all_goals go_enter Try.func13, Try.ntmps13
  go_wp2_with (first
    | ((with_reducible refine gBx ?_); refine bxA (vs := [.slice none 0 0, .slice none 0 0, .slice none 0 0]) H rfl rfl rfl ?_; clear H; intro b1 w1 H))
  go_ret
  exact ⟨_, rfl, (((H.consNone 3).consNone 3).consNone 33).swap (A := [_, _, _]) (B := [_])⟩
set_option maxHeartbeats 4000000 in
theorem rIn_at {w0 w : World} {D : Nat → Prop} {R : List Ent} {p : Nat} {b s d : Option Nat} {cb cs cd : Nat} {l : List En} (H : Hp w0 D (R) w) {i : Nat} (hp : R[i]? = some (eQ p b s d cb cs cd l)) (t : Int) :
    Calls Try.prog 36 #[.pointer (some ⟨p, 0, none⟩), .int .i64 t] w fun e w' => e = .returned (.bool (inP l t)) ∧ Hp w0 D (R) w' := by
  rcases inP_cases l t with ⟨h1, h3⟩ | ⟨h1, h2, h3⟩ | ⟨h1, h2, h3⟩
  all_goals rw [h3]
  all_goals clear h3
  all_goals go_enter Try.func36, Try.ntmps36
  all_goals go_wp2_with (first
    | ((with_reducible refine gLd ?_); refine eLd H rfl rfl ?_; refine kLd (i) hp rfl T22 rfl ?_)
    | ((with_reducible refine gEq ?_); (first | (refine wl_cmp rfl rfl rfl rfl ?_) | (refine wl_scmp rfl rfl rfl rfl ?_)); intro rb hrb; cases rb <;> (first | (exfalso; simp at hrb; done) | ((try simp only [CS1, gt_iff_lt, ge_iff_le, ne_eq, Decidable.not_not] at hrb); (try subst hrb); (try (exfalso; omega))))))
  all_goals go_ret
  all_goals exact ⟨rfl, H⟩
set_option maxHeartbeats 4000000 in
theorem rSize_no {w0 w : World} {D : Nat → Prop} {R : List Ent} {p : Nat} {b s d : Option Nat} {cb cs cd : Nat} {l : List En} (H : Hp w0 D (R) w) {i : Nat} (hp : R[i]? = some (eQ p b s d cb cs cd l)) {t : Int} (hi : inP l t = false) :
    Calls Try.prog 50 #[.pointer (some ⟨p, 0, none⟩), .int .i64 t] w fun e w' => e = .returned (.int .i64 0) ∧ Hp w0 D (R) w' := by
  have HI := Lib.hid hi
  clear hi
  all_goals go_enter Try.func50, Try.ntmps50
  go_wp2_with (first
    | (go_at_call 36; (refine (rIn_at H hp _).mono ?_; rintro e w1 ⟨rfl, H1⟩; clear H; have H := H1; clear H1; (try rw [HI.out]))))
  all_goals go_ret
  all_goals exact ⟨rfl, H⟩
set_option maxHeartbeats 4000000 in
theorem rSize_some {w0 w : World} {D : Nat → Prop} {R : List Ent} {p q : Nat} {b s d : Option Nat} {cb cs cd : Nat} {l : List En} (H : Hp w0 D (R) w) {i : Nat} (hp : R[i]? = some (eQ p b (some q) d cb cs cd l)) {j : Nat} (hq : R[j]? = some (eQs (some q) cs l)) {k : Nat} {x : En} (hl : l.length ≤ 65536) (hk : k < l.length) (he : l[k]? = some x) :
    Calls Try.prog 50 #[.pointer (some ⟨p, 0, none⟩), .int .i64 ((k : Int) + 1)] w fun e w' => e = .returned (.int .i64 x.size) ∧ Hp w0 D (R) w' := by
  have hk0 : (0 : Int) ≤ k := by omega
  have hk1 : (k : Int) < 65536 := by omega
  have hw : wrap64 (k : Int) = k := by unfold wrap64; omega
  have HI := Lib.hid (show inP l ((k : Int) + 1) = true from inP_yes (by omega) (by omega))
  have HE := Lib.hid (sizesV_at he)
  have hlc : l.length ≤ cs := by have h5 : (sizesV l).length ≤ cs := H.le (i := j) hq; rw [sizesV_len] at h5; omega
  clear he
  all_goals go_enter Try.func50, Try.ntmps50
  go_wp2_with (first
    | (go_at_call 36; (refine (rIn_at H hp _).mono ?_; rintro e w1 ⟨rfl, H1⟩; clear H; have H := H1; clear H1; (try rw [HI.out])))
    | ((with_reducible refine gLd ?_); refine eLd H rfl rfl ?_; refine kLd (i) hp rfl T41 rfl ?_)
    | ((with_reducible refine gLd ?_); refine eLd H rfl rfl ?_; refine kLd j hq rfl T3 HE.out ?_))
  all_goals go_ret
  all_goals exact ⟨rfl, H⟩
theorem rSize_at {w0 w : World} {D : Nat → Prop} {R : List Ent} {p : Nat} {b s d : Option Nat} {cb cs cd : Nat} {l : List En} (H : Hp w0 D R w) {i : Nat} (hp : R[i]? = some (eQ p b s d cb cs cd l)) {j : Nat} (hq : R[j]? = some (eQs s cs l)) (hl : l.length ≤ 65536) (t : Int) :
    Calls Try.prog 50 #[.pointer (some ⟨p, 0, none⟩), .int .i64 t] w fun e w' => e = .returned (.int .i64 (sizeP l t)) ∧ Hp w0 D R w' := by
  cases hi : inP l t with
  | false =>
    have h1 : sizeP l t = 0 := by simp [sizeP, entP_no hi]
    rw [h1]; exact rSize_no H hp hi
  | true =>
    obtain ⟨k, x, h1, h2, h3, h4⟩ := entP_in hi
    have h5 : sizeP l t = x.size := by simp [sizeP, h4]
    obtain ⟨b9, hb⟩ := H.some_of hq (by dsimp only; rw [sizesV_len]; omega)
    have hb : s = some b9 := hb
    subst hb
    rw [h5, h1]; exact @rSize_some _ _ _ _ _ _ b none d _ _ _ _ H _ hp _ hq _ _ hl h2 h3
set_option maxHeartbeats 4000000 in
theorem rDepth_no {w0 w : World} {D : Nat → Prop} {R : List Ent} {p : Nat} {b s d : Option Nat} {cb cs cd : Nat} {l : List En} (H : Hp w0 D (R) w) {i : Nat} (hp : R[i]? = some (eQ p b s d cb cs cd l)) {t : Int} (hi : inP l t = false) :
    Calls Try.prog 51 #[.pointer (some ⟨p, 0, none⟩), .int .i64 t] w fun e w' => e = .returned (.int .i64 0) ∧ Hp w0 D (R) w' := by
  have HI := Lib.hid hi
  clear hi
  all_goals go_enter Try.func51, Try.ntmps51
  go_wp2_with (first
    | (go_at_call 36; (refine (rIn_at H hp _).mono ?_; rintro e w1 ⟨rfl, H1⟩; clear H; have H := H1; clear H1; (try rw [HI.out]))))
  all_goals go_ret
  all_goals exact ⟨rfl, H⟩
set_option maxHeartbeats 4000000 in
theorem rDepth_some {w0 w : World} {D : Nat → Prop} {R : List Ent} {p q : Nat} {b s d : Option Nat} {cb cs cd : Nat} {l : List En} (H : Hp w0 D (R) w) {i : Nat} (hp : R[i]? = some (eQ p b s (some q) cb cs cd l)) {j : Nat} (hq : R[j]? = some (eQd (some q) cd l)) {k : Nat} {x : En} (hl : l.length ≤ 65536) (hk : k < l.length) (he : l[k]? = some x) :
    Calls Try.prog 51 #[.pointer (some ⟨p, 0, none⟩), .int .i64 ((k : Int) + 1)] w fun e w' => e = .returned (.int .i64 x.deep) ∧ Hp w0 D (R) w' := by
  have hk0 : (0 : Int) ≤ k := by omega
  have hk1 : (k : Int) < 65536 := by omega
  have hw : wrap64 (k : Int) = k := by unfold wrap64; omega
  have HI := Lib.hid (show inP l ((k : Int) + 1) = true from inP_yes (by omega) (by omega))
  have HE := Lib.hid (deepsV_at he)
  have hlc : l.length ≤ cd := by have h5 : (deepsV l).length ≤ cd := H.le (i := j) hq; rw [deepsV_len] at h5; omega
  clear he
  all_goals go_enter Try.func51, Try.ntmps51
  go_wp2_with (first
    | (go_at_call 36; (refine (rIn_at H hp _).mono ?_; rintro e w1 ⟨rfl, H1⟩; clear H; have H := H1; clear H1; (try rw [HI.out])))
    | ((with_reducible refine gLd ?_); refine eLd H rfl rfl ?_; refine kLd (i) hp rfl T41 rfl ?_)
    | ((with_reducible refine gLd ?_); refine eLd H rfl rfl ?_; refine kLd j hq rfl T3 HE.out ?_))
  all_goals go_ret
  all_goals exact ⟨rfl, H⟩
theorem rDepth_at {w0 w : World} {D : Nat → Prop} {R : List Ent} {p : Nat} {b s d : Option Nat} {cb cs cd : Nat} {l : List En} (H : Hp w0 D R w) {i : Nat} (hp : R[i]? = some (eQ p b s d cb cs cd l)) {j : Nat} (hq : R[j]? = some (eQd d cd l)) (hl : l.length ≤ 65536) (t : Int) :
    Calls Try.prog 51 #[.pointer (some ⟨p, 0, none⟩), .int .i64 t] w fun e w' => e = .returned (.int .i64 (deepP l t)) ∧ Hp w0 D R w' := by
  cases hi : inP l t with
  | false =>
    have h1 : deepP l t = 0 := by simp [deepP, entP_no hi]
    rw [h1]; exact rDepth_no H hp hi
  | true =>
    obtain ⟨k, x, h1, h2, h3, h4⟩ := entP_in hi
    have h5 : deepP l t = x.deep := by simp [deepP, h4]
    obtain ⟨b9, hb⟩ := H.some_of hq (by dsimp only; rw [deepsV_len]; omega)
    have hb : d = some b9 := hb
    subst hb
    rw [h5, h1]; exact @rDepth_some _ _ _ _ _ _ b s none _ _ _ _ H _ hp _ hq _ _ hl h2 h3
set_option maxHeartbeats 4000000 in
theorem rNode_no {w0 w : World} {D : Nat → Prop} {R : List Ent} {p : Nat} {b s d : Option Nat} {cb cs cd : Nat} {l : List En} (H : Hp w0 D (R) w) {i : Nat} (hp : R[i]? = some (eQ p b s d cb cs cd l)) {t : Int} (hi : inP l t = false) :
    Calls Try.prog 52 #[.pointer (some ⟨p, 0, none⟩), .int .i64 t] w fun e w' => e = .returned (.tuple #[.agg Nd.zero.cells.toArray, .bool false]) ∧ Hp w0 D (R) w' := by
  have HI := Lib.hid hi
  clear hi
  all_goals go_enter Try.func52, Try.ntmps52
  go_wp2_with (first
    | (go_at_call 36; (refine (rIn_at (i := i + 1) H hp _).mono ?_; rintro e w1 ⟨rfl, H1⟩; clear H; have H := H1; clear H1; (try rw [HI.out])))
    | ((with_reducible refine gSt ?_); (first | (refine eSt H rfl rfl ⟨.int _ _, rfl, ?_⟩) | (refine eSt H rfl rfl ⟨.bool _, rfl, ?_⟩) | (refine eSt H rfl rfl ⟨.slice _ _ _, rfl, ?_⟩) | (refine eSt H rfl rfl ⟨.pointer _, rfl, ?_⟩) | (refine eSt H rfl rfl ⟨.string _, rfl, ?_⟩) | (refine eSt H rfl rfl ⟨.agg (List.toArray _), rfl, ?_⟩)); (first | ((repeat ((with_reducible refine gES ?_); first | (refine kSt 0 rfl rfl (by exact TT _ rfl) rfl (Nat.le_of_ble_eq_true rfl) ?_) | (refine kStA 0 rfl rfl (by exact TT _ rfl) rfl rfl (Nat.le_of_ble_eq_true rfl) ?_) | (refine nxS ?_))); fail_if_success (with_reducible refine gES ?_))); clear H; intro w1 H; simp only [List.set_cons_zero, List.set_cons_succ] at H; (try simp only [lay, LS1, Nat.reduceAdd] at H))
    | ((with_reducible refine gAl ?_); (first | (refine al H Z33 rfl rfl ?_)); clear H; intro b1 w1 H))
  all_goals refine ret_ct (vs := [_, _, _, _, _, _, _]) 0 H rfl rfl rfl rfl rfl rfl T33 (Nat.le_of_ble_eq_true rfl) rfl ⟨rfl, H.drop⟩
set_option maxHeartbeats 4000000 in
theorem rNode_some {w0 w : World} {D : Nat → Prop} {R : List Ent} {p q : Nat} {b s d : Option Nat} {cb cs cd : Nat} {l : List En} (H : Hp w0 D (R) w) {i : Nat} (hp : R[i]? = some (eQ p (some q) s d cb cs cd l)) {j : Nat} (hq : R[j]? = some (eQn (some q) cb l)) {k : Nat} {x : En} (hl : l.length ≤ 65536) (hk : k < l.length) (he : l[k]? = some x) :
    Calls Try.prog 52 #[.pointer (some ⟨p, 0, none⟩), .int .i64 ((k : Int) + 1)] w fun e w' => e = .returned (.tuple #[.agg x.n.cells.toArray, .bool true]) ∧ Hp w0 D (R) w' := by
  obtain ⟨⟨x1, x2, x3, x4, x5, x6, x7⟩, x8, x9⟩ := x
  have hk0 : (0 : Int) ≤ k := by omega
  have hk1 : (k : Int) < 65536 := by omega
  have hw : wrap64 (k : Int) = k := by unfold wrap64; omega
  have HI := Lib.hid (show inP l ((k : Int) + 1) = true from inP_yes (by omega) (by omega))
  have HE := Lib.hid (nodesV_at he)
  have HL2 := Lib.hid (show k * 7 + 7 ≤ (rowsN (l.map En.n)).length by rw [nodesV_len]; omega)
  have hlc : l.length ≤ cb := by have h5 : (rowsN (l.map En.n)).length ≤ cb * 7 := H.le (i := j) hq; rw [nodesV_len] at h5; omega
  clear he
  all_goals (try simp only [Nd.cells, Nd.zero, eP, eE] at H)
  all_goals (try simp only [Nd.cells, Nd.zero, eP, eE])
  all_goals go_enter Try.func52, Try.ntmps52
  go_wp2_with (first
    | (go_at_call 36; (refine (rIn_at (i := i + 1) H hp _).mono ?_; rintro e w1 ⟨rfl, H1⟩; clear H; have H := H1; clear H1; (try rw [HI.out])))
    | ((with_reducible refine gLd ?_); refine eLd H rfl rfl ?_; refine kLd (i + 1) hp rfl T22 rfl ?_)
    | ((with_reducible refine gLd ?_); refine eLd H rfl rfl ?_; refine kLdA (j + 1) hq rfl T33 HL2.out HE.out ?_; (try simp only [Nd.cells]))
    | ((with_reducible refine gSt ?_); (first | (refine eSt H rfl rfl ⟨.int _ _, rfl, ?_⟩) | (refine eSt H rfl rfl ⟨.bool _, rfl, ?_⟩) | (refine eSt H rfl rfl ⟨.slice _ _ _, rfl, ?_⟩) | (refine eSt H rfl rfl ⟨.pointer _, rfl, ?_⟩) | (refine eSt H rfl rfl ⟨.string _, rfl, ?_⟩) | (refine eSt H rfl rfl ⟨.agg (List.toArray _), rfl, ?_⟩)); (first | ((repeat ((with_reducible refine gES ?_); first | (refine kSt 0 rfl rfl (by exact TT _ rfl) rfl (Nat.le_of_ble_eq_true rfl) ?_) | (refine kStA 0 rfl rfl (by exact TT _ rfl) rfl rfl (Nat.le_of_ble_eq_true rfl) ?_) | (refine nxS ?_))); fail_if_success (with_reducible refine gES ?_))); clear H; intro w1 H; simp only [List.set_cons_zero, List.set_cons_succ] at H; (try simp only [lay, LS1, Nat.reduceAdd] at H))
    | ((with_reducible refine gAl ?_); (first | (refine al H Z33 rfl rfl ?_)); clear H; intro b1 w1 H))
  all_goals refine ret_ct (vs := [_, _, _, _, _, _, _]) 0 H rfl rfl rfl rfl rfl rfl T33 (Nat.le_of_ble_eq_true rfl) rfl ⟨rfl, H.drop⟩
theorem rNode_at {w0 w : World} {D : Nat → Prop} {R : List Ent} {p : Nat} {b s d : Option Nat} {cb cs cd : Nat} {l : List En} (H : Hp w0 D R w) {i : Nat} (hp : R[i]? = some (eQ p b s d cb cs cd l)) {j : Nat} (hq : R[j]? = some (eQn b cb l)) (hl : l.length ≤ 65536) (t : Int) :
    Calls Try.prog 52 #[.pointer (some ⟨p, 0, none⟩), .int .i64 t] w fun e w' => e = .returned (.tuple #[.agg (nodeP l t).cells.toArray, .bool (inP l t)]) ∧ Hp w0 D R w' := by
  cases hi : inP l t with
  | false =>
    have h1 : nodeP l t = Nd.zero := by simp [nodeP, entP_no hi]
    rw [h1]; exact rNode_no H hp hi
  | true =>
    obtain ⟨k, x, h1, h2, h3, h4⟩ := entP_in hi
    have h5 : nodeP l t = x.n := by simp [nodeP, h4]
    obtain ⟨b9, hb⟩ := H.some_of hq (by dsimp only; rw [nodesV_len]; omega)
    have hb : b = some b9 := hb
    subst hb
    rw [h5, h1]; exact @rNode_some _ _ _ _ _ _ none s d _ _ _ _ H _ hp _ hq _ _ hl h2 h3
set_option maxHeartbeats 8000000 in
theorem rHas_some {w0 w : World} {D : Nat → Prop} {R : List Ent} {p q : Nat} {b s d : Option Nat} {cb cs cd : Nat} {l : List En} {r : Option Nat} (H : Hp w0 D (R) w) {i : Nat} (hp : R[i]? = some (eQ p (some q) s d cb cs cd l)) {j : Nat} (hq : R[j]? = some (eQn (some q) cb l)) (n : Nd) (hl : l.length ≤ 65536) (hr : findN l n 0 = r) :
    Calls Try.prog 15 #[.pointer (some ⟨p, 0, none⟩), .agg n.cells.toArray] w fun e w' => e = .returned (hasV r) ∧ Hp w0 D (R) w' := by
  obtain ⟨x1, x2, x3, x4, x5, x6, x7⟩ := n
  obtain ⟨N, hN⟩ : ∃ N, l.length = N := ⟨_, rfl⟩
  have hlc : N ≤ cb := by have h5 : (rowsN (l.map En.n)).length ≤ cb * 7 := H.le (i := j) hq; rw [nodesV_len] at h5; omega
  have HN := Lib.hid hN
  have HR := Lib.hid hr
  have HHL := Lib.hid hl
  have HNN : Hid (N ≤ 65536) := Lib.hid (by omega)
  have hp : R[i]? = some ⟨some p, [.slice (adr (some q) 0) N cb, .slice (adr s 0) N cs, .slice (adr d 0) N cd], 43, 3⟩ := by rw [← hN]; exact hp
  clear hr hl hN
  simp only [Nd.cells]
  go_enter Try.func15, Try.ntmps15
  go_wp2_with (first
    | ((with_reducible refine gBx ?_); refine bxA H rfl rfl rfl ?_; clear H; intro b1 w1 H))
  obtain ⟨b3, rfl⟩ : ∃ z, z = b1 := ⟨_, rfl⟩
  go_loopg [6] N (fun g v6 wr => ∃ k : Nat, v6 = .int .i64 (k : Int) ∧ k + g = N ∧ Hid (findN (l.drop k) ⟨x1, x2, x3, x4, x5, x6, x7⟩ k = r) ∧ Hp w0 D (⟨some b3, [.int .i64 x1, .int .i64 x2, .int .i64 x3, .int .u64 x4, .string x5, .int .i64 x6, .int .i64 x7], 33, 7⟩ :: R) wr)
  case atStart => exact ⟨0, rfl, by omega, by rw [List.drop_zero]; exact HR, H⟩
  case round =>
    clear H HR
    obtain ⟨k, rfl, hkg, HR, H⟩ := hrel
    by_cases hk : k < N
    · have hkl : k < l.length := by rw [HN.out]; exact hk
      obtain ⟨x, hx⟩ : ∃ x, l[k]? = some x := ⟨_, List.getElem?_eq_getElem hkl⟩
      have hdr : l.drop k = x :: l.drop (k + 1) := by
        rw [List.drop_eq_getElem_cons hkl]
        rw [List.getElem?_eq_getElem hkl] at hx
        cases hx; rfl
      have hst := HR.out
      rw [hdr] at hst
      have HE := Lib.hid (nodesV_at hx)
      have HL2 := Lib.hid (show k * 7 + 7 ≤ (rowsN (l.map En.n)).length by rw [nodesV_len]; omega)
      have hw : wrap64 ((k : Int) + 1) = (k : Int) + 1 := by have := HNN.out; unfold wrap64; omega
      cases hb : x.n.beq ⟨x1, x2, x3, x4, x5, x6, x7⟩ with
      | true =>
        simp only [findN, hb, if_true] at hst
        subst hst
        have HB := Lib.hid hb
        have HKG := Lib.hid hkg
        clear hb hx hdr hkg HR
        have e9 : hasV (some k) = .tuple #[.int .i64 (wrap64 ((k : Int) + 1)), .bool true] := by rw [hw]; rfl
        have HE9 := Lib.hid e9
        clear e9
        go_wp2_with (first
    | ((with_reducible refine gLd ?_); refine eLd H rfl rfl ?_; refine kLd (i + 1) hp rfl T22 rfl ?_)
    | ((with_reducible refine gLd ?_); refine eLd H rfl rfl ?_; refine kLdA (j + 1) hq rfl T33 HL2.out HE.out ?_)
    | ((with_reducible refine gEq ?_); refine wl_eqN (n := x.n) (m := ⟨x1, x2, x3, x4, x5, x6, x7⟩) rfl HB.out rfl rfl ?_)
    | ((with_reducible refine gLd ?_); refine eLd H rfl rfl ?_; first | ((repeat ((with_reducible refine gEx ?_); first | (refine kLd 0 rfl rfl (by exact TT _ rfl) rfl ?_) | (refine kLdA 0 rfl rfl (by exact TT _ rfl) (Nat.le_of_ble_eq_true rfl) (by simp only [Nd.cells, Nd.zero, eP, eE, LS2]; rfl) ?_) | (refine nxL ?_))); fail_if_success (with_reducible refine gEx ?_)))
    | ((with_reducible refine gEq ?_); (first | (refine wl_cmp rfl rfl rfl rfl ?_) | (refine wl_scmp rfl rfl rfl rfl ?_)); intro rb hrb; cases rb <;> (first | (exfalso; simp at hrb; done) | ((try simp only [CS1, gt_iff_lt, ge_iff_le, ne_eq, Decidable.not_not] at hrb); (try subst hrb); (try (exfalso; omega)))))
    | ((with_reducible refine gRg ?_); refine wp_region_text rfl (by decide +kernel) ?_; replace H := H.drew)
    | ((with_reducible refine EndQ.intro ?_ ?_); (· kernel_rfl)))
        go_ret2
        rw [HE9.out]
        exact ⟨rfl, H.drop⟩
      | false =>
        simp only [findN, hb] at hst
        have HR2 := Lib.hid (show findN (l.drop (k + 1)) ⟨x1, x2, x3, x4, x5, x6, x7⟩ (k + 1) = r by simpa using hst)
        have HB := Lib.hid hb
        have HKG := Lib.hid hkg
        clear hb hx hdr hkg HR hst
        go_wp2_with (first
    | ((with_reducible refine gLd ?_); refine eLd H rfl rfl ?_; refine kLd (i + 1) hp rfl T22 rfl ?_)
    | ((with_reducible refine gLd ?_); refine eLd H rfl rfl ?_; refine kLdA (j + 1) hq rfl T33 HL2.out HE.out ?_)
    | ((with_reducible refine gEq ?_); refine wl_eqN (n := x.n) (m := ⟨x1, x2, x3, x4, x5, x6, x7⟩) rfl HB.out rfl rfl ?_)
    | ((with_reducible refine gLd ?_); refine eLd H rfl rfl ?_; first | ((repeat ((with_reducible refine gEx ?_); first | (refine kLd 0 rfl rfl (by exact TT _ rfl) rfl ?_) | (refine kLdA 0 rfl rfl (by exact TT _ rfl) (Nat.le_of_ble_eq_true rfl) (by simp only [Nd.cells, Nd.zero, eP, eE, LS2]; rfl) ?_) | (refine nxL ?_))); fail_if_success (with_reducible refine gEx ?_)))
    | ((with_reducible refine gEq ?_); (first | (refine wl_cmp rfl rfl rfl rfl ?_) | (refine wl_scmp rfl rfl rfl rfl ?_)); intro rb hrb; cases rb <;> (first | (exfalso; simp at hrb; done) | ((try simp only [CS1, gt_iff_lt, ge_iff_le, ne_eq, Decidable.not_not] at hrb); (try subst hrb); (try (exfalso; omega)))))
    | ((with_reducible refine gRg ?_); refine wp_region_text rfl (by decide +kernel) ?_; replace H := H.drew)
    | ((with_reducible refine EndQ.intro ?_ ?_); (· kernel_rfl)))
        go_roundg (gk - 1)
        case measure => have := HKG.out; omega
        case rel => exact ⟨k + 1, by go_num, by have := HKG.out; omega, HR2, H⟩
    · obtain rfl : k = N := by omega
      have hst := HR.out
      rw [List.drop_of_length_le (by have := HN.out; omega)] at hst
      simp only [findN] at hst
      subst hst
      clear HR hkg
      go_wp2_with (first
    | ((with_reducible refine gLd ?_); refine eLd H rfl rfl ?_; refine kLd (i + 1) hp rfl T22 rfl ?_)
    | ((with_reducible refine gEq ?_); (first | (refine wl_cmp rfl rfl rfl rfl ?_) | (refine wl_scmp rfl rfl rfl rfl ?_)); intro rb hrb; cases rb <;> (first | (exfalso; simp at hrb; done) | ((try simp only [CS1, gt_iff_lt, ge_iff_le, ne_eq, Decidable.not_not] at hrb); (try subst hrb); (try (exfalso; omega))))))
      go_ret2
      exact ⟨rfl, H.drop⟩
set_option maxHeartbeats 4000000 in
theorem rHas_nil {w0 w : World} {D : Nat → Prop} {R : List Ent} {p : Nat} {b s d : Option Nat} {cb cs cd : Nat} {l : List En}  (H : Hp w0 D (R) w) {i : Nat} (hp : R[i]? = some (eQ p b s d cb cs cd l)) (n : Nd) (h0 : l = []) :
    Calls Try.prog 15 #[.pointer (some ⟨p, 0, none⟩), .agg n.cells.toArray] w fun e w' => e = .returned (hasV none) ∧ Hp w0 D (R) w' := by
  obtain ⟨x1, x2, x3, x4, x5, x6, x7⟩ := n
  subst h0
  have hp : R[i]? = some ⟨some p, [.slice (adr b 0) 0 cb, .slice (adr s 0) 0 cs, .slice (adr d 0) 0 cd], 43, 3⟩ := hp
  simp only [Nd.cells]
  go_enter Try.func15, Try.ntmps15
  go_wp2_with (first
    | ((with_reducible refine gBx ?_); refine bxA H rfl rfl rfl ?_; clear H; intro b1 w1 H))
  obtain ⟨L9, hL, H⟩ := (show ∃ L', L' = _ ∧ Hp w0 D L' _ from ⟨_, rfl, H⟩)
  go_loopg [6] 0 (fun g v6 wr => v6 = .int .i64 0 ∧ Hp w0 D L9 wr)
  case atStart => exact ⟨rfl, H⟩
  case round =>
    clear H
    obtain ⟨rfl, H⟩ := hrel
    subst hL
    go_wp2_with (first
    | ((with_reducible refine gLd ?_); refine eLd H rfl rfl ?_; refine kLd (i + 1) hp rfl T22 rfl ?_)
    | ((with_reducible refine gEq ?_); (first | (refine wl_cmp rfl rfl rfl rfl ?_) | (refine wl_scmp rfl rfl rfl rfl ?_)); intro rb hrb; cases rb <;> (first | (exfalso; simp at hrb; done) | ((try simp only [CS1, gt_iff_lt, ge_iff_le, ne_eq, Decidable.not_not] at hrb); (try subst hrb); (try (exfalso; omega))))))
    go_ret2
    exact ⟨rfl, H.drop⟩
theorem rHas_at {w0 w : World} {D : Nat → Prop} {R : List Ent} {p : Nat} {b s d : Option Nat} {cb cs cd : Nat} {l : List En} {r : Option Nat} {n : Nd} (H : Hp w0 D R w) {i : Nat} (hp : R[i]? = some (eQ p b s d cb cs cd l)) {j : Nat} (hq : R[j]? = some (eQn b cb l)) (hl : l.length ≤ 65536) (hr : findN l n 0 = r) :
    Calls Try.prog 15 #[.pointer (some ⟨p, 0, none⟩), .agg n.cells.toArray] w fun e w' => e = .returned (hasV r) ∧ Hp w0 D R w' := by
  by_cases h0 : l = []
  · subst h0
    simp only [findN] at hr
    subst hr
    exact rHas_nil H hp n rfl
  · obtain ⟨b9, hb⟩ := H.some_of hq (by dsimp only; rw [nodesV_len]; have := List.length_pos_iff.2 h0; omega)
    have hb : b = some b9 := hb
    subst hb
    exact @rHas_some _ _ _ _ _ _ none s d _ _ _ _ _ H _ hp _ hq n hl hr
end Go.Proofs.Ytebecelhcpljaaa
