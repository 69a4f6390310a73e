/- What functions of layer 5 compute. -/
import Derived.Test.YtebecelhcpljaaaW5
import Derived.Test.YtebecelhcpljaaaGxSl
import Derived.LoopN
import Derived.WalkKit
import Derived.Lib.Hide
import Derived.Deep.LoopGhost
import Derived.WalkSpells
set_option linter.unusedVariables false
set_option linter.unusedSimpArgs false
namespace Go.Proofs.Ytebecelhcpljaaa
open Go.RowKit Go.Gx Go.Gx.Trm
set_option maxRecDepth 100000
theorem bs2 {P : Program} {w0 w : World} {D : Nat → Prop} {L : List Ent} {ops : Array Oper} {Q : Exit → Act → World → Prop} {a : Act} {rest : List Oper} {e : TypeId} {z : Value} {m : Nat} {u v : Value} {dst : Option Tmp} {t ty : TypeId} {x y : Operand} {pos : String} {af : Array Edge} {g : Option (Nat × Bool)} (H : Hp w0 D L w)
    (hw : Region.wanted ⟨dst, .buildSlice t 2 #[(0, x), (1, y)], ty, pos, af, g⟩ (yielded ops a.tmps) = true) (hx : a.eval x = u) (hy : a.eval y = v) (ht : sI P t = some (e, z, 1, m)) (hu : u.cells = #[u]) (hv : v.cells = #[v])
    (k : ∀ b w', Hp w0 D (⟨some b, [u, v], e, 2⟩ :: L) w' → wpList P ops Q rest (a.put dst (.slice (some ⟨b, 0, none⟩) 2 2)) w') : wpList P ops Q (⟨dst, .buildSlice t 2 #[(0, x), (1, y)], ty, pos, af, g⟩ :: rest) a w := by
  obtain ⟨hun, i, hi, hz, hsz, rfl, hzs⟩ := sI_spec ht
  have hH := H.alloc #[u, v] e [u, v] rfl
  refine wl_run (v := .slice (some ⟨w.heap.size, 0, none⟩) 2 2) (w' := w.alloc (.cells #[u, v] e)) hw ?_ (k _ _ hH)
  have hfill : Instr.fill (fun j => some (j, 1)) ((Array.range 2).map fun j => z.cells[j % z.cells.size]!) [(0, u), (1, v)] = some #[u, v] := by
    simp [Instr.fill, hu, hv]
    apply Array.ext
    · simp
    · intro j h1 h2
      simp at h2
      rcases j with _ | _ | j
      · simp [Array.getElem_setIfInBounds]
      · simp [Array.getElem_setIfInBounds]
      · omega
  simp [execOp, Instr.buildSlice, run_underlying hun, sizeOf, typeInfo, zeroValue, hi, hz, hx, hy, hsz, hfill, newRow]
theorem go_max {m n : Int} {w : World} : True := trivial
theorem bigS_eq {l : List En} {n : Nd} {x y : Int} (h1 : sizeP l n.a = x) (h2 : sizeP l n.b = y) : bigS l n = 1 + x + y := by unfold bigS; rw [h1, h2]
theorem P0 (l : List En) : sizeP l 0 = 0 ∧ deepP l 0 = 0 := by
  have h : entP l 0 = none := entP_no (by unfold inP; simp)
  simp [sizeP, deepP, h]
set_option maxHeartbeats 4000000 in
theorem check_k0 {w0 w : World} {D : Nat → Prop} {R : List Ent} {f t u x : Bool} {p mb : Nat} {a : Option Nat} {c : Nat} {l : List En} {i j : Nat} (H : Hp w0 D (R) w) (n : Nd) (ho : own n = true) (hs : shRow n.kind = [.bool f, .bool t, .bool u, .bool x, .int .i64 0]) (he5 : (if (f && !nm n.frm) || (t && (!nm n.dst || n.dst == n.frm)) then (50 : Int) else if 64 < n.text.size then 1 else 0) = (0 : Int)) (hp : R[i]? = some (eP p mb a c l)) (hq : R[j]? = some (eE a c l)) (hl : l.length ≤ 65536) (ha : n.a = 0) (hb : n.b = 0) :
    Calls Try.prog 70 #[.pointer (some ⟨p, 0, none⟩), .agg n.cells.toArray] w fun e w' => e = .returned (.tuple #[.int .i64 1, .int .i64 1, .int .i64 0]) ∧ Hp w0 D (R) w' := by
  obtain ⟨k, fr, ds, nu, tx, na, nb⟩ := n
  dsimp only at *
  have HS := Lib.hid hs
  have HE1 := Lib.hid (plainE_t ho)
  have HE5 := Lib.hid he5
  clear hs ho he5
  simp only [Nd.cells] at HS HE1 ⊢
  obtain rfl : na = 0 := ha
  obtain rfl : nb = 0 := hb
  go_enter Try.func70, Try.ntmps70
  go_wp2_with (first
    | (go_at_call 76; (refine (plain_at (n := ⟨k, fr, ds, nu, tx, _, _⟩) H HS.out HE1.out).mono ?_; rintro e w1 ⟨rfl, H1⟩; clear H; have H := H1; clear H1))
    | (go_at_call 77; (refine (fields_at H ⟨k, fr, ds, nu, tx, _, _⟩ HE5.out).mono ?_; rintro e w1 ⟨rfl, H1⟩; clear H; have H := H1; clear H1))
    | ((with_reducible refine gBs ?_); first | (refine bs2 (u := .int .i64 na) (v := .int .i64 nb) H rfl rfl rfl S61 rfl rfl ?_; clear H; intro bs1 w1 H) | (refine bs2 (u := .int .i64 na) (v := .int .i64 0) H rfl rfl rfl S61 rfl rfl ?_; clear H; intro bs1 w1 H) | (refine bs2 (u := .int .i64 0) (v := .int .i64 0) H rfl rfl rfl S61 rfl rfl ?_; clear H; intro bs1 w1 H))
    | ((with_reducible refine gLd ?_); refine eLd H rfl rfl ?_; first | ((repeat ((with_reducible refine gEx ?_); first | (refine kLd 0 rfl rfl (by exact TT _ rfl) rfl ?_) | (refine kLdA 0 rfl rfl (by exact TT _ rfl) (Nat.le_of_ble_eq_true rfl) (by simp only [Nd.cells, Nd.zero, eP, eE, LS2]; rfl) ?_) | (refine nxL ?_))); fail_if_success (with_reducible refine gEx ?_)))
    | ((with_reducible refine gSt ?_); (first | (refine eSt H rfl rfl ⟨.int _ _, rfl, ?_⟩) | (refine eSt H rfl rfl ⟨.bool _, rfl, ?_⟩) | (refine eSt H rfl rfl ⟨.slice _ _ _, rfl, ?_⟩) | (refine eSt H rfl rfl ⟨.pointer _, rfl, ?_⟩) | (refine eSt H rfl rfl ⟨.string _, rfl, ?_⟩) | (refine eSt H rfl rfl ⟨.agg (List.toArray _), rfl, ?_⟩)); (first | ((repeat ((with_reducible refine gES ?_); first | (refine kSt 0 rfl rfl (by exact TT _ rfl) rfl (Nat.le_of_ble_eq_true rfl) ?_) | (refine kStA 0 rfl rfl (by exact TT _ rfl) rfl rfl (Nat.le_of_ble_eq_true rfl) ?_) | (refine nxS ?_))); fail_if_success (with_reducible refine gES ?_))); clear H; intro w1 H; simp only [List.set_cons_zero, List.set_cons_succ] at H; (try simp only [lay, LS1, Nat.reduceAdd] at H))
    | ((with_reducible refine gBx ?_); refine bxA H rfl rfl rfl ?_; clear H; intro b1 w1 H)
    | ((with_reducible refine gEq ?_); (first | (refine wl_cmp rfl rfl rfl rfl ?_) | (refine wl_scmp rfl rfl rfl rfl ?_)); intro rb hrb; cases rb <;> (first | (exfalso; simp at hrb; done) | ((try simp only [CS1, gt_iff_lt, ge_iff_le, ne_eq, Decidable.not_not] at hrb); (try subst hrb); (try (exfalso; omega)))))
    | ((with_reducible refine gAl ?_); (first | (refine al H Z33 rfl rfl ?_) | (refine al H Z110 rfl rfl ?_) | (refine al H Z122 rfl rfl ?_)); clear H; intro b1 w1 H))
  refine wp_loop_rounds 1 ?_
  rw [rounds_succ]
  go_wp2_with (first
    | ((with_reducible refine gEq ?_); (first | (refine wl_cmp rfl rfl rfl rfl ?_) | (refine wl_scmp rfl rfl rfl rfl ?_)); intro rb hrb; cases rb <;> (first | (exfalso; simp at hrb; done) | ((try simp only [CS1, gt_iff_lt, ge_iff_le, ne_eq, Decidable.not_not] at hrb); (try subst hrb); (try (exfalso; omega))))))
  all_goals go_ret3
  all_goals exact ⟨rfl, H.drop.drop.drop⟩
set_option maxHeartbeats 4000000 in
theorem check_k1n {w0 w : World} {D : Nat → Prop} {R : List Ent} {f t u x : Bool} {p mb : Nat} {a : Option Nat} {c : Nat} {l : List En} {i j : Nat} (H : Hp w0 D (R) w) (n : Nd) (ho : own n = true) (hs : shRow n.kind = [.bool f, .bool t, .bool u, .bool x, .int .i64 1]) (he5 : (if (f && !nm n.frm) || (t && (!nm n.dst || n.dst == n.frm)) then (50 : Int) else if 64 < n.text.size then 1 else 0) = (0 : Int)) (hp : R[i]? = some (eP p mb a c l)) (hq : R[j]? = some (eE a c l)) (hl : l.length ≤ 65536) (hia : inP l n.a = false) (hb : n.b = 0) :
    Calls Try.prog 70 #[.pointer (some ⟨p, 0, none⟩), .agg n.cells.toArray] w fun e w' => e = .returned (.tuple #[.int .i64 0, .int .i64 0, .int .i64 51]) ∧ Hp w0 D (R) w' := by
  obtain ⟨k, fr, ds, nu, tx, na, nb⟩ := n
  dsimp only at *
  have HS := Lib.hid hs
  have HE1 := Lib.hid (plainE_t ho)
  have HE5 := Lib.hid he5
  clear hs ho he5
  simp only [Nd.cells] at HS HE1 ⊢
  obtain rfl : nb = 0 := hb
  have HIA := Lib.hid hia
  clear hia
  go_enter Try.func70, Try.ntmps70
  go_wp2_with (first
    | (go_at_call 76; (refine (plain_at (n := ⟨k, fr, ds, nu, tx, _, _⟩) H HS.out HE1.out).mono ?_; rintro e w1 ⟨rfl, H1⟩; clear H; have H := H1; clear H1))
    | (go_at_call 77; (refine (fields_at H ⟨k, fr, ds, nu, tx, _, _⟩ HE5.out).mono ?_; rintro e w1 ⟨rfl, H1⟩; clear H; have H := H1; clear H1))
    | ((with_reducible refine gBs ?_); first | (refine bs2 (u := .int .i64 na) (v := .int .i64 nb) H rfl rfl rfl S61 rfl rfl ?_; clear H; intro bs1 w1 H) | (refine bs2 (u := .int .i64 na) (v := .int .i64 0) H rfl rfl rfl S61 rfl rfl ?_; clear H; intro bs1 w1 H) | (refine bs2 (u := .int .i64 0) (v := .int .i64 0) H rfl rfl rfl S61 rfl rfl ?_; clear H; intro bs1 w1 H))
    | ((with_reducible refine gLd ?_); refine eLd H rfl rfl ?_; first | ((repeat ((with_reducible refine gEx ?_); first | (refine kLd 0 rfl rfl (by exact TT _ rfl) rfl ?_) | (refine kLdA 0 rfl rfl (by exact TT _ rfl) (Nat.le_of_ble_eq_true rfl) (by simp only [Nd.cells, Nd.zero, eP, eE, LS2]; rfl) ?_) | (refine nxL ?_))); fail_if_success (with_reducible refine gEx ?_)))
    | ((with_reducible refine gSt ?_); (first | (refine eSt H rfl rfl ⟨.int _ _, rfl, ?_⟩) | (refine eSt H rfl rfl ⟨.bool _, rfl, ?_⟩) | (refine eSt H rfl rfl ⟨.slice _ _ _, rfl, ?_⟩) | (refine eSt H rfl rfl ⟨.pointer _, rfl, ?_⟩) | (refine eSt H rfl rfl ⟨.string _, rfl, ?_⟩) | (refine eSt H rfl rfl ⟨.agg (List.toArray _), rfl, ?_⟩)); (first | ((repeat ((with_reducible refine gES ?_); first | (refine kSt 0 rfl rfl (by exact TT _ rfl) rfl (Nat.le_of_ble_eq_true rfl) ?_) | (refine kStA 0 rfl rfl (by exact TT _ rfl) rfl rfl (Nat.le_of_ble_eq_true rfl) ?_) | (refine nxS ?_))); fail_if_success (with_reducible refine gES ?_))); clear H; intro w1 H; simp only [List.set_cons_zero, List.set_cons_succ] at H; (try simp only [lay, LS1, Nat.reduceAdd] at H))
    | ((with_reducible refine gBx ?_); refine bxA H rfl rfl rfl ?_; clear H; intro b1 w1 H)
    | ((with_reducible refine gEq ?_); (first | (refine wl_cmp rfl rfl rfl rfl ?_) | (refine wl_scmp rfl rfl rfl rfl ?_)); intro rb hrb; cases rb <;> (first | (exfalso; simp at hrb; done) | ((try simp only [CS1, gt_iff_lt, ge_iff_le, ne_eq, Decidable.not_not] at hrb); (try subst hrb); (try (exfalso; omega)))))
    | ((with_reducible refine gAl ?_); (first | (refine al H Z33 rfl rfl ?_) | (refine al H Z110 rfl rfl ?_) | (refine al H Z122 rfl rfl ?_)); clear H; intro b1 w1 H))
  refine wp_loop_rounds 1 ?_
  rw [rounds_succ]
  go_wp2_with (first
    | (go_at_call 53; (refine (in_at (i := i + 3) H hp _).mono ?_; rintro e w1 ⟨rfl, H1⟩; clear H; have H := H1; clear H1; first | rw [HIA.out] | rw [HIB.out]))
    | ((with_reducible refine gLd ?_); refine eLd H rfl rfl ?_; first | ((repeat ((with_reducible refine gEx ?_); first | (refine kLd 0 rfl rfl (by exact TT _ rfl) rfl ?_) | (refine kLdA 0 rfl rfl (by exact TT _ rfl) (Nat.le_of_ble_eq_true rfl) (by simp only [Nd.cells, Nd.zero, eP, eE, LS2]; rfl) ?_) | (refine nxL ?_))); fail_if_success (with_reducible refine gEx ?_)))
    | ((with_reducible refine gEq ?_); (first | (refine wl_cmp rfl rfl rfl rfl ?_) | (refine wl_scmp rfl rfl rfl rfl ?_)); intro rb hrb; cases rb <;> (first | (exfalso; simp at hrb; done) | ((try simp only [CS1, gt_iff_lt, ge_iff_le, ne_eq, Decidable.not_not] at hrb); (try subst hrb); (try (exfalso; omega))))))
  all_goals go_ret3
  all_goals exact ⟨rfl, H.drop.drop.drop⟩
def ChkP (w0 : World) (D : Nat → Prop) (R : List Ent) (sz dp : Int) (e : Ending) (w' : World) : Prop :=
  ∃ s d er, e = .returned (.tuple #[.int .i64 s, .int .i64 d, .int .i64 er]) ∧ ((er = 52 ∧ s = 0 ∧ d = 0 ∧ (4096 < sz ∨ 64 < dp)) ∨ (er = 0 ∧ s = sz ∧ d = dp ∧ sz ≤ 4096 ∧ dp ≤ 64)) ∧ Hp w0 D R w'
set_option maxHeartbeats 4000000 in
theorem check_k1 {w0 w : World} {D : Nat → Prop} {R : List Ent} {f t u x : Bool} {p mb : Nat} {a : Option Nat} {c : Nat} {l : List En} {i j : Nat} {sa da : Int} (H : Hp w0 D (R) w) (n : Nd) (ho : own n = true) (hs : shRow n.kind = [.bool f, .bool t, .bool u, .bool x, .int .i64 1]) (he5 : (if (f && !nm n.frm) || (t && (!nm n.dst || n.dst == n.frm)) then (50 : Int) else if 64 < n.text.size then 1 else 0) = (0 : Int)) (hp : R[i]? = some (eP p mb a c l)) (hq : R[j]? = some (eE a c l)) (hl : l.length ≤ 65536) (hia : inP l n.a = true) (hb : n.b = 0) (hsa : sizeP l n.a = sa) (hda : deepP l n.a = da) (s0 : 0 ≤ sa) (s1 : sa ≤ 4096) (d0 : 1 ≤ da) (d1 : da ≤ 64) :
    Calls Try.prog 70 #[.pointer (some ⟨p, 0, none⟩), .agg n.cells.toArray] w fun e w' => ChkP w0 D R (1 + sa) (1 + da) e w' := by
  obtain ⟨k, fr, ds, nu, tx, na, nb⟩ := n
  dsimp only at *
  have HS := Lib.hid hs
  have HE1 := Lib.hid (plainE_t ho)
  have HE5 := Lib.hid he5
  clear hs ho he5
  simp only [Nd.cells] at HS HE1 ⊢
  obtain rfl : nb = 0 := hb
  have HIA := Lib.hid hia
  have HSA := Lib.hid hsa
  have HDA := Lib.hid hda
  clear hia hsa hda
  go_enter Try.func70, Try.ntmps70
  go_wp2_with (first
    | (go_at_call 76; (refine (plain_at (n := ⟨k, fr, ds, nu, tx, _, _⟩) H HS.out HE1.out).mono ?_; rintro e w1 ⟨rfl, H1⟩; clear H; have H := H1; clear H1))
    | (go_at_call 77; (refine (fields_at H ⟨k, fr, ds, nu, tx, _, _⟩ HE5.out).mono ?_; rintro e w1 ⟨rfl, H1⟩; clear H; have H := H1; clear H1))
    | ((with_reducible refine gBs ?_); first | (refine bs2 (u := .int .i64 na) (v := .int .i64 nb) H rfl rfl rfl S61 rfl rfl ?_; clear H; intro bs1 w1 H) | (refine bs2 (u := .int .i64 na) (v := .int .i64 0) H rfl rfl rfl S61 rfl rfl ?_; clear H; intro bs1 w1 H) | (refine bs2 (u := .int .i64 0) (v := .int .i64 0) H rfl rfl rfl S61 rfl rfl ?_; clear H; intro bs1 w1 H))
    | ((with_reducible refine gLd ?_); refine eLd H rfl rfl ?_; first | ((repeat ((with_reducible refine gEx ?_); first | (refine kLd 0 rfl rfl (by exact TT _ rfl) rfl ?_) | (refine kLdA 0 rfl rfl (by exact TT _ rfl) (Nat.le_of_ble_eq_true rfl) (by simp only [Nd.cells, Nd.zero, eP, eE, LS2]; rfl) ?_) | (refine nxL ?_))); fail_if_success (with_reducible refine gEx ?_)))
    | ((with_reducible refine gSt ?_); (first | (refine eSt H rfl rfl ⟨.int _ _, rfl, ?_⟩) | (refine eSt H rfl rfl ⟨.bool _, rfl, ?_⟩) | (refine eSt H rfl rfl ⟨.slice _ _ _, rfl, ?_⟩) | (refine eSt H rfl rfl ⟨.pointer _, rfl, ?_⟩) | (refine eSt H rfl rfl ⟨.string _, rfl, ?_⟩) | (refine eSt H rfl rfl ⟨.agg (List.toArray _), rfl, ?_⟩)); (first | ((repeat ((with_reducible refine gES ?_); first | (refine kSt 0 rfl rfl (by exact TT _ rfl) rfl (Nat.le_of_ble_eq_true rfl) ?_) | (refine kStA 0 rfl rfl (by exact TT _ rfl) rfl rfl (Nat.le_of_ble_eq_true rfl) ?_) | (refine nxS ?_))); fail_if_success (with_reducible refine gES ?_))); clear H; intro w1 H; simp only [List.set_cons_zero, List.set_cons_succ] at H; (try simp only [lay, LS1, Nat.reduceAdd] at H))
    | ((with_reducible refine gBx ?_); refine bxA H rfl rfl rfl ?_; clear H; intro b1 w1 H)
    | ((with_reducible refine gEq ?_); (first | (refine wl_cmp rfl rfl rfl rfl ?_) | (refine wl_scmp rfl rfl rfl rfl ?_)); intro rb hrb; cases rb <;> (first | (exfalso; simp at hrb; done) | ((try simp only [CS1, gt_iff_lt, ge_iff_le, ne_eq, Decidable.not_not] at hrb); (try subst hrb); (try (exfalso; omega)))))
    | ((with_reducible refine gAl ?_); (first | (refine al H Z33 rfl rfl ?_) | (refine al H Z110 rfl rfl ?_) | (refine al H Z122 rfl rfl ?_)); clear H; intro b1 w1 H))
  refine wp_loop_rounds 2 ?_
  rw [rounds_succ]
  go_wp2_with (first
    | (go_at_call 53; (refine (in_at (i := i + 3) H hp _).mono ?_; rintro e w1 ⟨rfl, H1⟩; clear H; have H := H1; clear H1; first | rw [HIA.out] | rw [HIB.out]))
    | (go_at_call 21; (refine (Size_at (i := i + 3) (j := j + 3) H hp hq hl _).mono ?_; rintro e w1 ⟨rfl, H1⟩; clear H; have H := H1; clear H1; first | rw [HSA.out] | rw [HSB.out]))
    | (go_at_call 22; (refine (Depth_at (i := i + 3) (j := j + 3) H hp hq hl _).mono ?_; rintro e w1 ⟨rfl, H1⟩; clear H; have H := H1; clear H1; first | rw [HDA.out] | rw [HDB.out]))
    | ((with_reducible refine gLd ?_); refine eLd H rfl rfl ?_; first | ((repeat ((with_reducible refine gEx ?_); first | (refine kLd 0 rfl rfl (by exact TT _ rfl) rfl ?_) | (refine kLdA 0 rfl rfl (by exact TT _ rfl) (Nat.le_of_ble_eq_true rfl) (by simp only [Nd.cells, Nd.zero, eP, eE, LS2]; rfl) ?_) | (refine nxL ?_))); fail_if_success (with_reducible refine gEx ?_)))
    | ((with_reducible refine gEq ?_); (first | (refine wl_cmp rfl rfl rfl rfl ?_) | (refine wl_scmp rfl rfl rfl rfl ?_)); intro rb hrb; cases rb <;> (first | (exfalso; simp at hrb; done) | ((try simp only [CS1, gt_iff_lt, ge_iff_le, ne_eq, Decidable.not_not] at hrb); (try subst hrb); (try (exfalso; omega))))))
  rw [rounds_succ]
  go_wp2_with (first
    | ((with_reducible refine gEq ?_); (first | (refine wl_cmp rfl rfl rfl rfl ?_) | (refine wl_scmp rfl rfl rfl rfl ?_)); intro rb hrb; cases rb <;> (first | (exfalso; simp at hrb; done) | ((try simp only [CS1, gt_iff_lt, ge_iff_le, ne_eq, Decidable.not_not] at hrb); (try subst hrb); (try (exfalso; omega))))))
  all_goals go_ret3
  all_goals first
    | exact ⟨_, _, _, rfl, .inl ⟨rfl, rfl, rfl, by omega⟩, H.drop.drop.drop⟩
    | exact ⟨_, _, _, rfl, .inr ⟨rfl, by omega, by omega, by omega, by omega⟩, H.drop.drop.drop⟩
set_option maxHeartbeats 4000000 in
theorem check_k2lt {w0 w : World} {D : Nat → Prop} {R : List Ent} {f t u x : Bool} {p mb : Nat} {a : Option Nat} {c : Nat} {l : List En} {i j : Nat} {sa da sb db : Int} (H : Hp w0 D (R) w) (n : Nd) (ho : own n = true) (hs : shRow n.kind = [.bool f, .bool t, .bool u, .bool x, .int .i64 2]) (he5 : (if (f && !nm n.frm) || (t && (!nm n.dst || n.dst == n.frm)) then (50 : Int) else if 64 < n.text.size then 1 else 0) = (0 : Int)) (hp : R[i]? = some (eP p mb a c l)) (hq : R[j]? = some (eE a c l)) (hl : l.length ≤ 65536) (hia : inP l n.a = true) (hib : inP l n.b = true) (hsa : sizeP l n.a = sa) (hda : deepP l n.a = da) (s0 : 0 ≤ sa) (s1 : sa ≤ 4096) (d0 : 1 ≤ da) (d1 : da ≤ 64) (hsb : sizeP l n.b = sb) (hdb : deepP l n.b = db) (t0 : 0 ≤ sb) (t1 : sb ≤ 4096) (e0 : 1 ≤ db) (e1 : db ≤ 64) (hy : da < db) :
    Calls Try.prog 70 #[.pointer (some ⟨p, 0, none⟩), .agg n.cells.toArray] w fun e w' => ChkP w0 D R (1 + sa + sb) (1 + db) e w' := by
  obtain ⟨k, fr, ds, nu, tx, na, nb⟩ := n
  dsimp only at *
  have HS := Lib.hid hs
  have HE1 := Lib.hid (plainE_t ho)
  have HE5 := Lib.hid he5
  clear hs ho he5
  simp only [Nd.cells] at HS HE1 ⊢
  have HIA := Lib.hid hia
  have HSA := Lib.hid hsa
  have HDA := Lib.hid hda
  have HIB := Lib.hid hib
  have HSB := Lib.hid hsb
  have HDB := Lib.hid hdb
  clear hia hsa hda hib hsb hdb
  go_enter Try.func70, Try.ntmps70
  go_wp2_with (first
    | (go_at_call 76; (refine (plain_at (n := ⟨k, fr, ds, nu, tx, _, _⟩) H HS.out HE1.out).mono ?_; rintro e w1 ⟨rfl, H1⟩; clear H; have H := H1; clear H1))
    | (go_at_call 77; (refine (fields_at H ⟨k, fr, ds, nu, tx, _, _⟩ HE5.out).mono ?_; rintro e w1 ⟨rfl, H1⟩; clear H; have H := H1; clear H1))
    | ((with_reducible refine gBs ?_); first | (refine bs2 (u := .int .i64 na) (v := .int .i64 nb) H rfl rfl rfl S61 rfl rfl ?_; clear H; intro bs1 w1 H) | (refine bs2 (u := .int .i64 na) (v := .int .i64 0) H rfl rfl rfl S61 rfl rfl ?_; clear H; intro bs1 w1 H) | (refine bs2 (u := .int .i64 0) (v := .int .i64 0) H rfl rfl rfl S61 rfl rfl ?_; clear H; intro bs1 w1 H))
    | ((with_reducible refine gLd ?_); refine eLd H rfl rfl ?_; first | ((repeat ((with_reducible refine gEx ?_); first | (refine kLd 0 rfl rfl (by exact TT _ rfl) rfl ?_) | (refine kLdA 0 rfl rfl (by exact TT _ rfl) (Nat.le_of_ble_eq_true rfl) (by simp only [Nd.cells, Nd.zero, eP, eE, LS2]; rfl) ?_) | (refine nxL ?_))); fail_if_success (with_reducible refine gEx ?_)))
    | ((with_reducible refine gSt ?_); (first | (refine eSt H rfl rfl ⟨.int _ _, rfl, ?_⟩) | (refine eSt H rfl rfl ⟨.bool _, rfl, ?_⟩) | (refine eSt H rfl rfl ⟨.slice _ _ _, rfl, ?_⟩) | (refine eSt H rfl rfl ⟨.pointer _, rfl, ?_⟩) | (refine eSt H rfl rfl ⟨.string _, rfl, ?_⟩) | (refine eSt H rfl rfl ⟨.agg (List.toArray _), rfl, ?_⟩)); (first | ((repeat ((with_reducible refine gES ?_); first | (refine kSt 0 rfl rfl (by exact TT _ rfl) rfl (Nat.le_of_ble_eq_true rfl) ?_) | (refine kStA 0 rfl rfl (by exact TT _ rfl) rfl rfl (Nat.le_of_ble_eq_true rfl) ?_) | (refine nxS ?_))); fail_if_success (with_reducible refine gES ?_))); clear H; intro w1 H; simp only [List.set_cons_zero, List.set_cons_succ] at H; (try simp only [lay, LS1, Nat.reduceAdd] at H))
    | ((with_reducible refine gBx ?_); refine bxA H rfl rfl rfl ?_; clear H; intro b1 w1 H)
    | ((with_reducible refine gEq ?_); (first | (refine wl_cmp rfl rfl rfl rfl ?_) | (refine wl_scmp rfl rfl rfl rfl ?_)); intro rb hrb; cases rb <;> (first | (exfalso; simp at hrb; done) | ((try simp only [CS1, gt_iff_lt, ge_iff_le, ne_eq, Decidable.not_not] at hrb); (try subst hrb); (try (exfalso; omega)))))
    | ((with_reducible refine gAl ?_); (first | (refine al H Z33 rfl rfl ?_) | (refine al H Z110 rfl rfl ?_) | (refine al H Z122 rfl rfl ?_)); clear H; intro b1 w1 H))
  refine wp_loop_rounds 3 ?_
  rw [rounds_succ]
  go_wp2_with (first
    | (go_at_call 53; (refine (in_at (i := i + 3) H hp _).mono ?_; rintro e w1 ⟨rfl, H1⟩; clear H; have H := H1; clear H1; first | rw [HIA.out] | rw [HIB.out]))
    | (go_at_call 21; (refine (Size_at (i := i + 3) (j := j + 3) H hp hq hl _).mono ?_; rintro e w1 ⟨rfl, H1⟩; clear H; have H := H1; clear H1; first | rw [HSA.out] | rw [HSB.out]))
    | (go_at_call 22; (refine (Depth_at (i := i + 3) (j := j + 3) H hp hq hl _).mono ?_; rintro e w1 ⟨rfl, H1⟩; clear H; have H := H1; clear H1; first | rw [HDA.out] | rw [HDB.out]))
    | ((with_reducible refine gLd ?_); refine eLd H rfl rfl ?_; first | ((repeat ((with_reducible refine gEx ?_); first | (refine kLd 0 rfl rfl (by exact TT _ rfl) rfl ?_) | (refine kLdA 0 rfl rfl (by exact TT _ rfl) (Nat.le_of_ble_eq_true rfl) (by simp only [Nd.cells, Nd.zero, eP, eE, LS2]; rfl) ?_) | (refine nxL ?_))); fail_if_success (with_reducible refine gEx ?_)))
    | ((with_reducible refine gEq ?_); (first | (refine wl_cmp rfl rfl rfl rfl ?_) | (refine wl_scmp rfl rfl rfl rfl ?_)); intro rb hrb; cases rb <;> (first | (exfalso; simp at hrb; done) | ((try simp only [CS1, gt_iff_lt, ge_iff_le, ne_eq, Decidable.not_not] at hrb); (try subst hrb); (try (exfalso; omega))))))
  rw [rounds_succ]
  go_wp2_with (first
    | (go_at_call 53; (refine (in_at (i := i + 3) H hp _).mono ?_; rintro e w1 ⟨rfl, H1⟩; clear H; have H := H1; clear H1; first | rw [HIA.out] | rw [HIB.out]))
    | (go_at_call 21; (refine (Size_at (i := i + 3) (j := j + 3) H hp hq hl _).mono ?_; rintro e w1 ⟨rfl, H1⟩; clear H; have H := H1; clear H1; first | rw [HSA.out] | rw [HSB.out]))
    | (go_at_call 22; (refine (Depth_at (i := i + 3) (j := j + 3) H hp hq hl _).mono ?_; rintro e w1 ⟨rfl, H1⟩; clear H; have H := H1; clear H1; first | rw [HDA.out] | rw [HDB.out]))
    | ((with_reducible refine gLd ?_); refine eLd H rfl rfl ?_; first | ((repeat ((with_reducible refine gEx ?_); first | (refine kLd 0 rfl rfl (by exact TT _ rfl) rfl ?_) | (refine kLdA 0 rfl rfl (by exact TT _ rfl) (Nat.le_of_ble_eq_true rfl) (by simp only [Nd.cells, Nd.zero, eP, eE, LS2]; rfl) ?_) | (refine nxL ?_))); fail_if_success (with_reducible refine gEx ?_)))
    | ((with_reducible refine gEq ?_); (first | (refine wl_cmp rfl rfl rfl rfl ?_) | (refine wl_scmp rfl rfl rfl rfl ?_)); intro rb hrb; cases rb <;> (first | (exfalso; simp at hrb; done) | ((try simp only [CS1, gt_iff_lt, ge_iff_le, ne_eq, Decidable.not_not] at hrb); (try subst hrb); (try (exfalso; omega))))))
  rw [rounds_succ]
  go_wp2_with (first
    | ((with_reducible refine gEq ?_); (first | (refine wl_cmp rfl rfl rfl rfl ?_) | (refine wl_scmp rfl rfl rfl rfl ?_)); intro rb hrb; cases rb <;> (first | (exfalso; simp at hrb; done) | ((try simp only [CS1, gt_iff_lt, ge_iff_le, ne_eq, Decidable.not_not] at hrb); (try subst hrb); (try (exfalso; omega))))))
  all_goals go_ret3
  all_goals first
    | exact ⟨_, _, _, rfl, .inl ⟨rfl, rfl, rfl, by omega⟩, H.drop.drop.drop⟩
    | exact ⟨_, _, _, rfl, .inr ⟨rfl, by omega, by omega, by omega, by omega⟩, H.drop.drop.drop⟩
set_option maxHeartbeats 4000000 in
theorem check_k2ge {w0 w : World} {D : Nat → Prop} {R : List Ent} {f t u x : Bool} {p mb : Nat} {a : Option Nat} {c : Nat} {l : List En} {i j : Nat} {sa da sb db : Int} (H : Hp w0 D (R) w) (n : Nd) (ho : own n = true) (hs : shRow n.kind = [.bool f, .bool t, .bool u, .bool x, .int .i64 2]) (he5 : (if (f && !nm n.frm) || (t && (!nm n.dst || n.dst == n.frm)) then (50 : Int) else if 64 < n.text.size then 1 else 0) = (0 : Int)) (hp : R[i]? = some (eP p mb a c l)) (hq : R[j]? = some (eE a c l)) (hl : l.length ≤ 65536) (hia : inP l n.a = true) (hib : inP l n.b = true) (hsa : sizeP l n.a = sa) (hda : deepP l n.a = da) (s0 : 0 ≤ sa) (s1 : sa ≤ 4096) (d0 : 1 ≤ da) (d1 : da ≤ 64) (hsb : sizeP l n.b = sb) (hdb : deepP l n.b = db) (t0 : 0 ≤ sb) (t1 : sb ≤ 4096) (e0 : 1 ≤ db) (e1 : db ≤ 64) (hy : db ≤ da) :
    Calls Try.prog 70 #[.pointer (some ⟨p, 0, none⟩), .agg n.cells.toArray] w fun e w' => ChkP w0 D R (1 + sa + sb) (1 + da) e w' := by
  obtain ⟨k, fr, ds, nu, tx, na, nb⟩ := n
  dsimp only at *
  have HS := Lib.hid hs
  have HE1 := Lib.hid (plainE_t ho)
  have HE5 := Lib.hid he5
  clear hs ho he5
  simp only [Nd.cells] at HS HE1 ⊢
  have HIA := Lib.hid hia
  have HSA := Lib.hid hsa
  have HDA := Lib.hid hda
  have HIB := Lib.hid hib
  have HSB := Lib.hid hsb
  have HDB := Lib.hid hdb
  clear hia hsa hda hib hsb hdb
  go_enter Try.func70, Try.ntmps70
  go_wp2_with (first
    | (go_at_call 76; (refine (plain_at (n := ⟨k, fr, ds, nu, tx, _, _⟩) H HS.out HE1.out).mono ?_; rintro e w1 ⟨rfl, H1⟩; clear H; have H := H1; clear H1))
    | (go_at_call 77; (refine (fields_at H ⟨k, fr, ds, nu, tx, _, _⟩ HE5.out).mono ?_; rintro e w1 ⟨rfl, H1⟩; clear H; have H := H1; clear H1))
    | ((with_reducible refine gBs ?_); first | (refine bs2 (u := .int .i64 na) (v := .int .i64 nb) H rfl rfl rfl S61 rfl rfl ?_; clear H; intro bs1 w1 H) | (refine bs2 (u := .int .i64 na) (v := .int .i64 0) H rfl rfl rfl S61 rfl rfl ?_; clear H; intro bs1 w1 H) | (refine bs2 (u := .int .i64 0) (v := .int .i64 0) H rfl rfl rfl S61 rfl rfl ?_; clear H; intro bs1 w1 H))
    | ((with_reducible refine gLd ?_); refine eLd H rfl rfl ?_; first | ((repeat ((with_reducible refine gEx ?_); first | (refine kLd 0 rfl rfl (by exact TT _ rfl) rfl ?_) | (refine kLdA 0 rfl rfl (by exact TT _ rfl) (Nat.le_of_ble_eq_true rfl) (by simp only [Nd.cells, Nd.zero, eP, eE, LS2]; rfl) ?_) | (refine nxL ?_))); fail_if_success (with_reducible refine gEx ?_)))
    | ((with_reducible refine gSt ?_); (first | (refine eSt H rfl rfl ⟨.int _ _, rfl, ?_⟩) | (refine eSt H rfl rfl ⟨.bool _, rfl, ?_⟩) | (refine eSt H rfl rfl ⟨.slice _ _ _, rfl, ?_⟩) | (refine eSt H rfl rfl ⟨.pointer _, rfl, ?_⟩) | (refine eSt H rfl rfl ⟨.string _, rfl, ?_⟩) | (refine eSt H rfl rfl ⟨.agg (List.toArray _), rfl, ?_⟩)); (first | ((repeat ((with_reducible refine gES ?_); first | (refine kSt 0 rfl rfl (by exact TT _ rfl) rfl (Nat.le_of_ble_eq_true rfl) ?_) | (refine kStA 0 rfl rfl (by exact TT _ rfl) rfl rfl (Nat.le_of_ble_eq_true rfl) ?_) | (refine nxS ?_))); fail_if_success (with_reducible refine gES ?_))); clear H; intro w1 H; simp only [List.set_cons_zero, List.set_cons_succ] at H; (try simp only [lay, LS1, Nat.reduceAdd] at H))
    | ((with_reducible refine gBx ?_); refine bxA H rfl rfl rfl ?_; clear H; intro b1 w1 H)
    | ((with_reducible refine gEq ?_); (first | (refine wl_cmp rfl rfl rfl rfl ?_) | (refine wl_scmp rfl rfl rfl rfl ?_)); intro rb hrb; cases rb <;> (first | (exfalso; simp at hrb; done) | ((try simp only [CS1, gt_iff_lt, ge_iff_le, ne_eq, Decidable.not_not] at hrb); (try subst hrb); (try (exfalso; omega)))))
    | ((with_reducible refine gAl ?_); (first | (refine al H Z33 rfl rfl ?_) | (refine al H Z110 rfl rfl ?_) | (refine al H Z122 rfl rfl ?_)); clear H; intro b1 w1 H))
  refine wp_loop_rounds 3 ?_
  rw [rounds_succ]
  go_wp2_with (first
    | (go_at_call 53; (refine (in_at (i := i + 3) H hp _).mono ?_; rintro e w1 ⟨rfl, H1⟩; clear H; have H := H1; clear H1; first | rw [HIA.out] | rw [HIB.out]))
    | (go_at_call 21; (refine (Size_at (i := i + 3) (j := j + 3) H hp hq hl _).mono ?_; rintro e w1 ⟨rfl, H1⟩; clear H; have H := H1; clear H1; first | rw [HSA.out] | rw [HSB.out]))
    | (go_at_call 22; (refine (Depth_at (i := i + 3) (j := j + 3) H hp hq hl _).mono ?_; rintro e w1 ⟨rfl, H1⟩; clear H; have H := H1; clear H1; first | rw [HDA.out] | rw [HDB.out]))
    | ((with_reducible refine gLd ?_); refine eLd H rfl rfl ?_; first | ((repeat ((with_reducible refine gEx ?_); first | (refine kLd 0 rfl rfl (by exact TT _ rfl) rfl ?_) | (refine kLdA 0 rfl rfl (by exact TT _ rfl) (Nat.le_of_ble_eq_true rfl) (by simp only [Nd.cells, Nd.zero, eP, eE, LS2]; rfl) ?_) | (refine nxL ?_))); fail_if_success (with_reducible refine gEx ?_)))
    | ((with_reducible refine gEq ?_); (first | (refine wl_cmp rfl rfl rfl rfl ?_) | (refine wl_scmp rfl rfl rfl rfl ?_)); intro rb hrb; cases rb <;> (first | (exfalso; simp at hrb; done) | ((try simp only [CS1, gt_iff_lt, ge_iff_le, ne_eq, Decidable.not_not] at hrb); (try subst hrb); (try (exfalso; omega))))))
  rw [rounds_succ]
  go_wp2_with (first
    | (go_at_call 53; (refine (in_at (i := i + 3) H hp _).mono ?_; rintro e w1 ⟨rfl, H1⟩; clear H; have H := H1; clear H1; first | rw [HIA.out] | rw [HIB.out]))
    | (go_at_call 21; (refine (Size_at (i := i + 3) (j := j + 3) H hp hq hl _).mono ?_; rintro e w1 ⟨rfl, H1⟩; clear H; have H := H1; clear H1; first | rw [HSA.out] | rw [HSB.out]))
    | (go_at_call 22; (refine (Depth_at (i := i + 3) (j := j + 3) H hp hq hl _).mono ?_; rintro e w1 ⟨rfl, H1⟩; clear H; have H := H1; clear H1; first | rw [HDA.out] | rw [HDB.out]))
    | ((with_reducible refine gLd ?_); refine eLd H rfl rfl ?_; first | ((repeat ((with_reducible refine gEx ?_); first | (refine kLd 0 rfl rfl (by exact TT _ rfl) rfl ?_) | (refine kLdA 0 rfl rfl (by exact TT _ rfl) (Nat.le_of_ble_eq_true rfl) (by simp only [Nd.cells, Nd.zero, eP, eE, LS2]; rfl) ?_) | (refine nxL ?_))); fail_if_success (with_reducible refine gEx ?_)))
    | ((with_reducible refine gEq ?_); (first | (refine wl_cmp rfl rfl rfl rfl ?_) | (refine wl_scmp rfl rfl rfl rfl ?_)); intro rb hrb; cases rb <;> (first | (exfalso; simp at hrb; done) | ((try simp only [CS1, gt_iff_lt, ge_iff_le, ne_eq, Decidable.not_not] at hrb); (try subst hrb); (try (exfalso; omega))))))
  rw [rounds_succ]
  go_wp2_with (first
    | ((with_reducible refine gEq ?_); (first | (refine wl_cmp rfl rfl rfl rfl ?_) | (refine wl_scmp rfl rfl rfl rfl ?_)); intro rb hrb; cases rb <;> (first | (exfalso; simp at hrb; done) | ((try simp only [CS1, gt_iff_lt, ge_iff_le, ne_eq, Decidable.not_not] at hrb); (try subst hrb); (try (exfalso; omega))))))
  all_goals go_ret3
  all_goals first
    | exact ⟨_, _, _, rfl, .inl ⟨rfl, rfl, rfl, by omega⟩, H.drop.drop.drop⟩
    | exact ⟨_, _, _, rfl, .inr ⟨rfl, by omega, by omega, by omega, by omega⟩, H.drop.drop.drop⟩
set_option maxHeartbeats 4000000 in
theorem check_k2a {w0 w : World} {D : Nat → Prop} {R : List Ent} {f t u x : Bool} {p mb : Nat} {a : Option Nat} {c : Nat} {l : List En} {i j : Nat} {sa da : Int} (H : Hp w0 D (R) w) (n : Nd) (ho : own n = true) (hs : shRow n.kind = [.bool f, .bool t, .bool u, .bool x, .int .i64 2]) (he5 : (if (f && !nm n.frm) || (t && (!nm n.dst || n.dst == n.frm)) then (50 : Int) else if 64 < n.text.size then 1 else 0) = (0 : Int)) (hp : R[i]? = some (eP p mb a c l)) (hq : R[j]? = some (eE a c l)) (hl : l.length ≤ 65536) (hia : inP l n.a = false) :
    Calls Try.prog 70 #[.pointer (some ⟨p, 0, none⟩), .agg n.cells.toArray] w fun e w' => e = .returned (.tuple #[.int .i64 0, .int .i64 0, .int .i64 51]) ∧ Hp w0 D (R) w' := by
  obtain ⟨k, fr, ds, nu, tx, na, nb⟩ := n
  dsimp only at *
  have HS := Lib.hid hs
  have HE1 := Lib.hid (plainE_t ho)
  have HE5 := Lib.hid he5
  clear hs ho he5
  simp only [Nd.cells] at HS HE1 ⊢
  have HIA := Lib.hid hia
  clear hia
  go_enter Try.func70, Try.ntmps70
  go_wp2_with (first
    | (go_at_call 76; (refine (plain_at (n := ⟨k, fr, ds, nu, tx, _, _⟩) H HS.out HE1.out).mono ?_; rintro e w1 ⟨rfl, H1⟩; clear H; have H := H1; clear H1))
    | (go_at_call 77; (refine (fields_at H ⟨k, fr, ds, nu, tx, _, _⟩ HE5.out).mono ?_; rintro e w1 ⟨rfl, H1⟩; clear H; have H := H1; clear H1))
    | ((with_reducible refine gBs ?_); first | (refine bs2 (u := .int .i64 na) (v := .int .i64 nb) H rfl rfl rfl S61 rfl rfl ?_; clear H; intro bs1 w1 H) | (refine bs2 (u := .int .i64 na) (v := .int .i64 0) H rfl rfl rfl S61 rfl rfl ?_; clear H; intro bs1 w1 H) | (refine bs2 (u := .int .i64 0) (v := .int .i64 0) H rfl rfl rfl S61 rfl rfl ?_; clear H; intro bs1 w1 H))
    | ((with_reducible refine gLd ?_); refine eLd H rfl rfl ?_; first | ((repeat ((with_reducible refine gEx ?_); first | (refine kLd 0 rfl rfl (by exact TT _ rfl) rfl ?_) | (refine kLdA 0 rfl rfl (by exact TT _ rfl) (Nat.le_of_ble_eq_true rfl) (by simp only [Nd.cells, Nd.zero, eP, eE, LS2]; rfl) ?_) | (refine nxL ?_))); fail_if_success (with_reducible refine gEx ?_)))
    | ((with_reducible refine gSt ?_); (first | (refine eSt H rfl rfl ⟨.int _ _, rfl, ?_⟩) | (refine eSt H rfl rfl ⟨.bool _, rfl, ?_⟩) | (refine eSt H rfl rfl ⟨.slice _ _ _, rfl, ?_⟩) | (refine eSt H rfl rfl ⟨.pointer _, rfl, ?_⟩) | (refine eSt H rfl rfl ⟨.string _, rfl, ?_⟩) | (refine eSt H rfl rfl ⟨.agg (List.toArray _), rfl, ?_⟩)); (first | ((repeat ((with_reducible refine gES ?_); first | (refine kSt 0 rfl rfl (by exact TT _ rfl) rfl (Nat.le_of_ble_eq_true rfl) ?_) | (refine kStA 0 rfl rfl (by exact TT _ rfl) rfl rfl (Nat.le_of_ble_eq_true rfl) ?_) | (refine nxS ?_))); fail_if_success (with_reducible refine gES ?_))); clear H; intro w1 H; simp only [List.set_cons_zero, List.set_cons_succ] at H; (try simp only [lay, LS1, Nat.reduceAdd] at H))
    | ((with_reducible refine gBx ?_); refine bxA H rfl rfl rfl ?_; clear H; intro b1 w1 H)
    | ((with_reducible refine gEq ?_); (first | (refine wl_cmp rfl rfl rfl rfl ?_) | (refine wl_scmp rfl rfl rfl rfl ?_)); intro rb hrb; cases rb <;> (first | (exfalso; simp at hrb; done) | ((try simp only [CS1, gt_iff_lt, ge_iff_le, ne_eq, Decidable.not_not] at hrb); (try subst hrb); (try (exfalso; omega)))))
    | ((with_reducible refine gAl ?_); (first | (refine al H Z33 rfl rfl ?_) | (refine al H Z110 rfl rfl ?_) | (refine al H Z122 rfl rfl ?_)); clear H; intro b1 w1 H))
  refine wp_loop_rounds 1 ?_
  rw [rounds_succ]
  go_wp2_with (first
    | (go_at_call 53; (refine (in_at (i := i + 3) H hp _).mono ?_; rintro e w1 ⟨rfl, H1⟩; clear H; have H := H1; clear H1; first | rw [HIA.out] | rw [HIB.out]))
    | ((with_reducible refine gLd ?_); refine eLd H rfl rfl ?_; first | ((repeat ((with_reducible refine gEx ?_); first | (refine kLd 0 rfl rfl (by exact TT _ rfl) rfl ?_) | (refine kLdA 0 rfl rfl (by exact TT _ rfl) (Nat.le_of_ble_eq_true rfl) (by simp only [Nd.cells, Nd.zero, eP, eE, LS2]; rfl) ?_) | (refine nxL ?_))); fail_if_success (with_reducible refine gEx ?_)))
    | ((with_reducible refine gEq ?_); (first | (refine wl_cmp rfl rfl rfl rfl ?_) | (refine wl_scmp rfl rfl rfl rfl ?_)); intro rb hrb; cases rb <;> (first | (exfalso; simp at hrb; done) | ((try simp only [CS1, gt_iff_lt, ge_iff_le, ne_eq, Decidable.not_not] at hrb); (try subst hrb); (try (exfalso; omega))))))
  all_goals go_ret3
  all_goals exact ⟨rfl, H.drop.drop.drop⟩
set_option maxHeartbeats 4000000 in
theorem check_k2b {w0 w : World} {D : Nat → Prop} {R : List Ent} {f t u x : Bool} {p mb : Nat} {a : Option Nat} {c : Nat} {l : List En} {i j : Nat} {sa da : Int} (H : Hp w0 D (R) w) (n : Nd) (ho : own n = true) (hs : shRow n.kind = [.bool f, .bool t, .bool u, .bool x, .int .i64 2]) (he5 : (if (f && !nm n.frm) || (t && (!nm n.dst || n.dst == n.frm)) then (50 : Int) else if 64 < n.text.size then 1 else 0) = (0 : Int)) (hp : R[i]? = some (eP p mb a c l)) (hq : R[j]? = some (eE a c l)) (hl : l.length ≤ 65536) (hia : inP l n.a = true) (hib : inP l n.b = false) (hsa : sizeP l n.a = sa) (hda : deepP l n.a = da) (s0 : 0 ≤ sa) (s1 : sa ≤ 4096) (d0 : 1 ≤ da) (d1 : da ≤ 64) :
    Calls Try.prog 70 #[.pointer (some ⟨p, 0, none⟩), .agg n.cells.toArray] w fun e w' => e = .returned (.tuple #[.int .i64 0, .int .i64 0, .int .i64 51]) ∧ Hp w0 D (R) w' := by
  obtain ⟨k, fr, ds, nu, tx, na, nb⟩ := n
  dsimp only at *
  have HS := Lib.hid hs
  have HE1 := Lib.hid (plainE_t ho)
  have HE5 := Lib.hid he5
  clear hs ho he5
  simp only [Nd.cells] at HS HE1 ⊢
  have HIA := Lib.hid hia
  have HSA := Lib.hid hsa
  have HDA := Lib.hid hda
  have HIB := Lib.hid hib
  clear hia hsa hda hib
  go_enter Try.func70, Try.ntmps70
  go_wp2_with (first
    | (go_at_call 76; (refine (plain_at (n := ⟨k, fr, ds, nu, tx, _, _⟩) H HS.out HE1.out).mono ?_; rintro e w1 ⟨rfl, H1⟩; clear H; have H := H1; clear H1))
    | (go_at_call 77; (refine (fields_at H ⟨k, fr, ds, nu, tx, _, _⟩ HE5.out).mono ?_; rintro e w1 ⟨rfl, H1⟩; clear H; have H := H1; clear H1))
    | ((with_reducible refine gBs ?_); first | (refine bs2 (u := .int .i64 na) (v := .int .i64 nb) H rfl rfl rfl S61 rfl rfl ?_; clear H; intro bs1 w1 H) | (refine bs2 (u := .int .i64 na) (v := .int .i64 0) H rfl rfl rfl S61 rfl rfl ?_; clear H; intro bs1 w1 H) | (refine bs2 (u := .int .i64 0) (v := .int .i64 0) H rfl rfl rfl S61 rfl rfl ?_; clear H; intro bs1 w1 H))
    | ((with_reducible refine gLd ?_); refine eLd H rfl rfl ?_; first | ((repeat ((with_reducible refine gEx ?_); first | (refine kLd 0 rfl rfl (by exact TT _ rfl) rfl ?_) | (refine kLdA 0 rfl rfl (by exact TT _ rfl) (Nat.le_of_ble_eq_true rfl) (by simp only [Nd.cells, Nd.zero, eP, eE, LS2]; rfl) ?_) | (refine nxL ?_))); fail_if_success (with_reducible refine gEx ?_)))
    | ((with_reducible refine gSt ?_); (first | (refine eSt H rfl rfl ⟨.int _ _, rfl, ?_⟩) | (refine eSt H rfl rfl ⟨.bool _, rfl, ?_⟩) | (refine eSt H rfl rfl ⟨.slice _ _ _, rfl, ?_⟩) | (refine eSt H rfl rfl ⟨.pointer _, rfl, ?_⟩) | (refine eSt H rfl rfl ⟨.string _, rfl, ?_⟩) | (refine eSt H rfl rfl ⟨.agg (List.toArray _), rfl, ?_⟩)); (first | ((repeat ((with_reducible refine gES ?_); first | (refine kSt 0 rfl rfl (by exact TT _ rfl) rfl (Nat.le_of_ble_eq_true rfl) ?_) | (refine kStA 0 rfl rfl (by exact TT _ rfl) rfl rfl (Nat.le_of_ble_eq_true rfl) ?_) | (refine nxS ?_))); fail_if_success (with_reducible refine gES ?_))); clear H; intro w1 H; simp only [List.set_cons_zero, List.set_cons_succ] at H; (try simp only [lay, LS1, Nat.reduceAdd] at H))
    | ((with_reducible refine gBx ?_); refine bxA H rfl rfl rfl ?_; clear H; intro b1 w1 H)
    | ((with_reducible refine gEq ?_); (first | (refine wl_cmp rfl rfl rfl rfl ?_) | (refine wl_scmp rfl rfl rfl rfl ?_)); intro rb hrb; cases rb <;> (first | (exfalso; simp at hrb; done) | ((try simp only [CS1, gt_iff_lt, ge_iff_le, ne_eq, Decidable.not_not] at hrb); (try subst hrb); (try (exfalso; omega)))))
    | ((with_reducible refine gAl ?_); (first | (refine al H Z33 rfl rfl ?_) | (refine al H Z110 rfl rfl ?_) | (refine al H Z122 rfl rfl ?_)); clear H; intro b1 w1 H))
  refine wp_loop_rounds 2 ?_
  rw [rounds_succ]
  go_wp2_with (first
    | (go_at_call 53; (refine (in_at (i := i + 3) H hp _).mono ?_; rintro e w1 ⟨rfl, H1⟩; clear H; have H := H1; clear H1; first | rw [HIA.out] | rw [HIB.out]))
    | (go_at_call 21; (refine (Size_at (i := i + 3) (j := j + 3) H hp hq hl _).mono ?_; rintro e w1 ⟨rfl, H1⟩; clear H; have H := H1; clear H1; first | rw [HSA.out] | rw [HSB.out]))
    | (go_at_call 22; (refine (Depth_at (i := i + 3) (j := j + 3) H hp hq hl _).mono ?_; rintro e w1 ⟨rfl, H1⟩; clear H; have H := H1; clear H1; first | rw [HDA.out] | rw [HDB.out]))
    | ((with_reducible refine gLd ?_); refine eLd H rfl rfl ?_; first | ((repeat ((with_reducible refine gEx ?_); first | (refine kLd 0 rfl rfl (by exact TT _ rfl) rfl ?_) | (refine kLdA 0 rfl rfl (by exact TT _ rfl) (Nat.le_of_ble_eq_true rfl) (by simp only [Nd.cells, Nd.zero, eP, eE, LS2]; rfl) ?_) | (refine nxL ?_))); fail_if_success (with_reducible refine gEx ?_)))
    | ((with_reducible refine gEq ?_); (first | (refine wl_cmp rfl rfl rfl rfl ?_) | (refine wl_scmp rfl rfl rfl rfl ?_)); intro rb hrb; cases rb <;> (first | (exfalso; simp at hrb; done) | ((try simp only [CS1, gt_iff_lt, ge_iff_le, ne_eq, Decidable.not_not] at hrb); (try subst hrb); (try (exfalso; omega))))))
  rw [rounds_succ]
  go_wp2_with (first
    | (go_at_call 53; (refine (in_at (i := i + 3) H hp _).mono ?_; rintro e w1 ⟨rfl, H1⟩; clear H; have H := H1; clear H1; first | rw [HIA.out] | rw [HIB.out]))
    | ((with_reducible refine gLd ?_); refine eLd H rfl rfl ?_; first | ((repeat ((with_reducible refine gEx ?_); first | (refine kLd 0 rfl rfl (by exact TT _ rfl) rfl ?_) | (refine kLdA 0 rfl rfl (by exact TT _ rfl) (Nat.le_of_ble_eq_true rfl) (by simp only [Nd.cells, Nd.zero, eP, eE, LS2]; rfl) ?_) | (refine nxL ?_))); fail_if_success (with_reducible refine gEx ?_)))
    | ((with_reducible refine gEq ?_); (first | (refine wl_cmp rfl rfl rfl rfl ?_) | (refine wl_scmp rfl rfl rfl rfl ?_)); intro rb hrb; cases rb <;> (first | (exfalso; simp at hrb; done) | ((try simp only [CS1, gt_iff_lt, ge_iff_le, ne_eq, Decidable.not_not] at hrb); (try subst hrb); (try (exfalso; omega))))))
  all_goals go_ret3
  all_goals exact ⟨rfl, H.drop.drop.drop⟩
end Go.Proofs.Ytebecelhcpljaaa
