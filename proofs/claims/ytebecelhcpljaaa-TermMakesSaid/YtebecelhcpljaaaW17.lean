/- by and alike. -/
import Derived.Test.YtebecelhcpljaaaW15
import Derived.WalkKit
import Derived.Lib.Hide
import Derived.Deep.LoopGhost
import Derived.WalkSpells
set_option linter.unusedVariables false
set_option linter.unusedSimpArgs false
namespace Go.Proofs.Ytebecelhcpljaaa
open Go.RowKit Go.Gx Go.Gx.Trm
set_option maxRecDepth 100000
theorem eqn4 {s : Bool} (w : World) : (Op.equalIn 10000 4 (.bool s) (.bool s)).run Try.prog w = .ok true w := by
  rw [show (10000 : Nat) = 9999 + 1 from rfl]
  unfold Op.equalIn
  simp [run_underlying Try.underlying4]
theorem run_neb {w : World} {a : Act} {s : Bool} {u ty : TypeId} {dst : Option Tmp} {x y : Operand} {pos : String} {af : Array Edge} {g : Option (Nat × Bool)} (hx : a.eval x = .bool s) (hy : a.eval y = .bool s) :
    (execOp a.eval ⟨dst, .binOp .neq 4 x y u, ty, pos, af, g⟩).run Try.prog w = .ok (.value (.bool false)) w := by
  simp [execOp, hx, hy, eqGuard, binOp, Op.equal, Op.maxDepth, eqn4]
theorem wl_neb {w : World} {a : Act} {ops : Array Oper} {Q : Exit → Act → World → Prop} {rest : List Oper} {s : Bool} {u ty : TypeId} {dst : Option Tmp} {x y : Operand} {pos : String} {af : Array Edge} {g : Option (Nat × Bool)}
    (hw : Region.wanted ⟨dst, .binOp .neq 4 x y u, ty, pos, af, g⟩ (yielded ops a.tmps) = true) (hx : a.eval x = .bool s) (hy : a.eval y = .bool s)
    (k : wpList Try.prog ops Q rest (a.put dst (.bool false)) w) : wpList Try.prog ops Q (⟨dst, .binOp .neq 4 x y u, ty, pos, af, g⟩ :: rest) a w := wl_run hw (run_neb hx hy) k
theorem run_neN {w : World} {a : Act} {n : Nd} {u ty : TypeId} {dst : Option Tmp} {x y : Operand} {pos : String} {af : Array Edge} {g : Option (Nat × Bool)} (hx : a.eval x = .agg n.cells.toArray) (hy : a.eval y = .agg n.cells.toArray) :
    (execOp a.eval ⟨dst, .binOp .neq 33 x y u, ty, pos, af, g⟩).run Try.prog w = .ok (.value (.bool false)) w := by
  have h := run_neAgg (w := w) (u := u) (dst := dst) (ty := ty) (pos := pos) (af := af) (g := g) G33 (eq33 9998 n n) hx hy
  rw [Nd.beq_iff.2 rfl] at h
  exact h
theorem wl_neN {w : World} {a : Act} {ops : Array Oper} {Q : Exit → Act → World → Prop} {rest : List Oper} {n : Nd} {u ty : TypeId} {dst : Option Tmp} {x y : Operand} {pos : String} {af : Array Edge} {g : Option (Nat × Bool)}
    (hw : Region.wanted ⟨dst, .binOp .neq 33 x y u, ty, pos, af, g⟩ (yielded ops a.tmps) = true) (hx : a.eval x = .agg n.cells.toArray) (hy : a.eval y = .agg n.cells.toArray)
    (k : wpList Try.prog ops Q rest (a.put dst (.bool false)) w) : wpList Try.prog ops Q (⟨dst, .binOp .neq 33 x y u, ty, pos, af, g⟩ :: rest) a w := wl_run hw (run_neN hx hy) k
theorem wl_eqNb {w : World} {a : Act} {ops : Array Oper} {Q : Exit → Act → World → Prop} {rest : List Oper} {n m : Nd} {u ty : TypeId} {dst : Option Tmp} {x y : Operand} {pos : String} {af : Array Edge} {g : Option (Nat × Bool)}
    (hw : Region.wanted ⟨dst, .binOp .eql 33 x y u, ty, pos, af, g⟩ (yielded ops a.tmps) = true) (hx : a.eval x = .agg n.cells.toArray) (hy : a.eval y = .agg m.cells.toArray)
    (k : ∀ rb, n.beq m = rb → wpList Try.prog ops Q rest (a.put dst (.bool rb)) w) : wpList Try.prog ops Q (⟨dst, .binOp .eql 33 x y u, ty, pos, af, g⟩ :: rest) a w := wl_run hw (run_eqN rfl hx hy) (k _ rfl)
theorem hm_of {l : List En} {n m : Nd} {r : List En × Int × Int} (hm : makeE l n = r) (h : n.beq m = true) : makeE l m = r := by rw [← Nd.beq_iff.1 h]; exact hm
theorem Pl.dropL {W w : World} {E : Nat → Prop} {M : List (Nat × List (Value × Value))} {L : List Ent} {x : Ent} {p : Nat} {l : List En} (h : Pl W E M (x :: L) p l w) : Pl W E M L p l w := by
  obtain ⟨mb, a, c, h⟩ := h
  obtain ⟨w0, D, H, back⟩ := h.open
  exact ⟨mb, a, c, back _ _ (H.swap (A := [_, _]) (B := [_])).drop⟩
set_option maxHeartbeats 16000000 in
theorem by_no {W w : World} {E : Nat → Prop} {M : List (Nat × List (Value × Value))} {L : List Ent} {p : Nat} {l l2 : List En} {n : Nd} {t er : Int} (h0 : Pl W E M L p l w) (hl : l.length ≤ 65536) (hok : okP l) (hm : makeE l n = (l2, t, er)) : Calls Try.prog 16 #[.pointer (some ⟨p, 0, none⟩), .agg n.cells.toArray, .bool false] w fun e w' => MkP W E M L p l2 t er e w' := by
  obtain ⟨mb, a, c, h⟩ := h0
  obtain ⟨x1, x2, x3, x4, x5, x6, x7⟩ := n
  have HL := Lib.hid hl
  have HOK := Lib.hid hok
  have HM := Lib.hid hm
  clear hl hok hm
  obtain ⟨w0, D, H, back⟩ := h.open
  clear h
  simp only [Nd.cells]
  go_enter Try.func16, Try.ntmps16
  go_wp2_with (first
    | ((with_reducible refine gBx ?_); refine bxA (vs := [.int .i64 x1, .int .i64 x2, .int .i64 x3, .int .u64 x4, .string x5, .int .i64 x6, .int .i64 x7]) H rfl rfl rfl ?_; clear H; intro b4 w1 H)
    | (go_at_call 39; (refine (Make_spec (n := ⟨x1, x2, x3, x4, x5, x6, x7⟩) (L := ⟨some b4, _, 33, 7⟩ :: L) ⟨mb, a, c, back _ _ (H.swap (A := [_]) (B := [_, _]))⟩ HL.out HOK.out HM.out).mono ?_; rintro e w1 ⟨rfl, h1⟩))
    | ((with_reducible refine gLd ?_); refine eLd H rfl rfl ?_; first | ((repeat ((with_reducible refine gEx ?_); first | (refine kLd 0 rfl rfl (by exact TT _ rfl) rfl ?_) | (refine kLdA 0 rfl rfl (by exact TT _ rfl) (Nat.le_of_ble_eq_true rfl) (by simp only [Nd.cells, Nd.zero, eP, eE, LS2]; rfl) ?_) | (refine nxL ?_))); fail_if_success (with_reducible refine gEx ?_))))
  all_goals go_ret2
  all_goals exact ⟨rfl, h1.dropL⟩
set_option maxHeartbeats 16000000 in
theorem by_yes {W w : World} {E : Nat → Prop} {M : List (Nat × List (Value × Value))} {L : List Ent} {p : Nat} {l l2 : List En} {n : Nd} {t er : Int} (h0 : Pl W E M L p l w) (hl : l.length ≤ 65536) (hok : okP l) (hm : makeE l n = (l2, t, er)) : Calls Try.prog 16 #[.pointer (some ⟨p, 0, none⟩), .agg n.cells.toArray, .bool true] w fun e w' => MkP W E M L p l2 t er e w' := by
  obtain ⟨mb, a, c, h⟩ := h0
  obtain ⟨x1, x2, x3, x4, x5, x6, x7⟩ := n
  have HL := Lib.hid hl
  have HOK := Lib.hid hok
  have HM := Lib.hid hm
  clear hl hok hm
  obtain ⟨w0, D, H, back⟩ := h.open
  clear h
  simp only [Nd.cells]
  go_enter Try.func16, Try.ntmps16
  go_wp2_with (first
    | ((with_reducible refine gBx ?_); refine bxA (vs := [.int .i64 x1, .int .i64 x2, .int .i64 x3, .int .u64 x4, .string x5, .int .i64 x6, .int .i64 x7]) H rfl rfl rfl ?_; clear H; intro b4 w1 H)
    | ((with_reducible refine gEq ?_); (first | (refine wl_eqNb (n := ⟨x1, x2, x3, x4, x5, x6, x7⟩) (m := ⟨1, x2, 0, 0, ⟨#[]⟩, 0, 0⟩) rfl rfl rfl ?_) | (refine wl_eqNb (n := ⟨x1, x2, x3, x4, x5, x6, x7⟩) (m := ⟨2, 0, 0, x4, ⟨#[]⟩, 0, 0⟩) rfl rfl rfl ?_) | (refine wl_eqNb (n := ⟨x1, x2, x3, x4, x5, x6, x7⟩) (m := ⟨3, 0, 0, 0, x5, 0, 0⟩) rfl rfl rfl ?_) | (refine wl_eqNb (n := ⟨x1, x2, x3, x4, x5, x6, x7⟩) (m := ⟨4, 0, 0, 0, ⟨#[]⟩, x6, x7⟩) rfl rfl rfl ?_) | (refine wl_eqNb (n := ⟨x1, x2, x3, x4, x5, x6, x7⟩) (m := ⟨5, 0, 0, 0, ⟨#[]⟩, x6, 0⟩) rfl rfl rfl ?_) | (refine wl_eqNb (n := ⟨x1, x2, x3, x4, x5, x6, x7⟩) (m := ⟨6, x2, 0, 0, ⟨#[]⟩, 0, 0⟩) rfl rfl rfl ?_) | (refine wl_eqNb (n := ⟨x1, x2, x3, x4, x5, x6, x7⟩) (m := ⟨7, x2, 0, 0, ⟨#[]⟩, x6, 0⟩) rfl rfl rfl ?_) | (refine wl_eqNb (n := ⟨x1, x2, x3, x4, x5, x6, x7⟩) (m := ⟨8, x2, x3, 0, ⟨#[]⟩, x6, 0⟩) rfl rfl rfl ?_) | (refine wl_eqNb (n := ⟨x1, x2, x3, x4, x5, x6, x7⟩) (m := ⟨9, x2, x3, 0, ⟨#[]⟩, x6, 0⟩) rfl rfl rfl ?_)); intro rb hrb; cases rb)
    | (go_at_call 40; (refine (Name_mk (L := ⟨some b4, _, 33, 7⟩ :: L) ⟨mb, a, c, back _ _ (H.swap (A := [_]) (B := [_, _]))⟩ HL.out HOK.out (hm_of HM.out hrb)).mono ?_; rintro e w1 ⟨rfl, h1⟩))
    | (go_at_call 31; (refine (Num_mk (L := ⟨some b4, _, 33, 7⟩ :: L) ⟨mb, a, c, back _ _ (H.swap (A := [_]) (B := [_, _]))⟩ HL.out HOK.out (hm_of HM.out hrb)).mono ?_; rintro e w1 ⟨rfl, h1⟩))
    | (go_at_call 41; (refine (Data_mk (L := ⟨some b4, _, 33, 7⟩ :: L) ⟨mb, a, c, back _ _ (H.swap (A := [_]) (B := [_, _]))⟩ HL.out HOK.out (hm_of HM.out hrb)).mono ?_; rintro e w1 ⟨rfl, h1⟩))
    | (go_at_call 42; (refine (Pair_mk (L := ⟨some b4, _, 33, 7⟩ :: L) ⟨mb, a, c, back _ _ (H.swap (A := [_]) (B := [_, _]))⟩ HL.out HOK.out (hm_of HM.out hrb)).mono ?_; rintro e w1 ⟨rfl, h1⟩))
    | (go_at_call 43; (refine (Hash_mk (L := ⟨some b4, _, 33, 7⟩ :: L) ⟨mb, a, c, back _ _ (H.swap (A := [_]) (B := [_, _]))⟩ HL.out HOK.out (hm_of HM.out hrb)).mono ?_; rintro e w1 ⟨rfl, h1⟩))
    | (go_at_call 44; (refine (Key_mk (L := ⟨some b4, _, 33, 7⟩ :: L) ⟨mb, a, c, back _ _ (H.swap (A := [_]) (B := [_, _]))⟩ HL.out HOK.out (hm_of HM.out hrb)).mono ?_; rintro e w1 ⟨rfl, h1⟩))
    | (go_at_call 45; (refine (Sign_mk (L := ⟨some b4, _, 33, 7⟩ :: L) ⟨mb, a, c, back _ _ (H.swap (A := [_]) (B := [_, _]))⟩ HL.out HOK.out (hm_of HM.out hrb)).mono ?_; rintro e w1 ⟨rfl, h1⟩))
    | (go_at_call 46; (refine (Prom_mk (L := ⟨some b4, _, 33, 7⟩ :: L) ⟨mb, a, c, back _ _ (H.swap (A := [_]) (B := [_, _]))⟩ HL.out HOK.out (hm_of HM.out hrb)).mono ?_; rintro e w1 ⟨rfl, h1⟩))
    | (go_at_call 47; (refine (Fake_mk (L := ⟨some b4, _, 33, 7⟩ :: L) ⟨mb, a, c, back _ _ (H.swap (A := [_]) (B := [_, _]))⟩ HL.out HOK.out (hm_of HM.out hrb)).mono ?_; rintro e w1 ⟨rfl, h1⟩))
    | (go_at_call 39; (refine (Make_spec (n := ⟨x1, x2, x3, x4, x5, x6, x7⟩) (L := ⟨some b4, _, 33, 7⟩ :: L) ⟨mb, a, c, back _ _ (H.swap (A := [_]) (B := [_, _]))⟩ HL.out HOK.out HM.out).mono ?_; rintro e w1 ⟨rfl, h1⟩))
    | ((with_reducible refine gLd ?_); refine eLd H rfl rfl ?_; first | ((repeat ((with_reducible refine gEx ?_); first | (refine kLd 0 rfl rfl (by exact TT _ rfl) rfl ?_) | (refine kLdA 0 rfl rfl (by exact TT _ rfl) (Nat.le_of_ble_eq_true rfl) (by simp only [Nd.cells, Nd.zero, eP, eE, LS2]; rfl) ?_) | (refine nxL ?_))); fail_if_success (with_reducible refine gEx ?_))))
  all_goals go_ret2
  all_goals exact ⟨rfl, h1.dropL⟩
theorem by_spec {W w : World} {E : Nat → Prop} {M : List (Nat × List (Value × Value))} {L : List Ent} {p : Nat} {l l2 : List En} {n : Nd} {t er : Int} (b : Bool) (h0 : Pl W E M L p l w) (hl : l.length ≤ 65536) (hok : okP l) (hm : makeE l n = (l2, t, er)) :
    Calls Try.prog 16 #[.pointer (some ⟨p, 0, none⟩), .agg n.cells.toArray, .bool b] w fun e w' => MkP W E M L p l2 t er e w' := by
  cases b
  · exact by_no h0 hl hok hm
  · exact by_yes h0 hl hok hm
theorem Node_c {w0 w : World} {D : Nat → Prop} {R : List Ent} {p mb : Nat} {a : Option Nat} {c : Nat} {l : List En} {n : Nd} {r : Bool} {t : Int} (H : Hp w0 D R w) {i : Nat} (hp : R[i]? = some (eP p mb a c l)) {j : Nat} (hq : R[j]? = some (eE a c l)) (hl : l.length ≤ 65536) (h1 : nodeP l t = n) (h2 : inP l t = r) :
    Calls Try.prog 30 #[.pointer (some ⟨p, 0, none⟩), .int .i64 t] w fun e w' => e = .returned (.tuple #[.agg n.cells.toArray, .bool r]) ∧ Hp w0 D R w' := by
  subst h1 h2; exact Node_at H hp hq hl t
theorem rNode_c {w0 w : World} {D : Nat → Prop} {R : List Ent} {p : Nat} {b s d : Option Nat} {cb cs cd : Nat} {l : List En} {n : Nd} {r : Bool} {t : Int} (H : Hp w0 D R w) {i : Nat} (hp : R[i]? = some (eQ p b s d cb cs cd l)) {j : Nat} (hq : R[j]? = some (eQn b cb l)) (hl : l.length ≤ 65536) (h1 : nodeP l t = n) (h2 : inP l t = r) :
    Calls Try.prog 52 #[.pointer (some ⟨p, 0, none⟩), .int .i64 t] w fun e w' => e = .returned (.tuple #[.agg n.cells.toArray, .bool r]) ∧ Hp w0 D R w' := by
  subst h1 h2; exact rNode_at H hp hq hl t
theorem Size_c {w0 w : World} {D : Nat → Prop} {R : List Ent} {p mb : Nat} {a : Option Nat} {c : Nat} {l : List En} {t r : Int} (H : Hp w0 D R w) {i : Nat} (hp : R[i]? = some (eP p mb a c l)) {j : Nat} (hq : R[j]? = some (eE a c l)) (hl : l.length ≤ 65536) (h1 : sizeP l t = r) :
    Calls Try.prog 21 #[.pointer (some ⟨p, 0, none⟩), .int .i64 t] w fun e w' => e = .returned (.int .i64 r) ∧ Hp w0 D R w' := by
  subst h1; exact Size_at H hp hq hl t
theorem Depth_c {w0 w : World} {D : Nat → Prop} {R : List Ent} {p mb : Nat} {a : Option Nat} {c : Nat} {l : List En} {t r : Int} (H : Hp w0 D R w) {i : Nat} (hp : R[i]? = some (eP p mb a c l)) {j : Nat} (hq : R[j]? = some (eE a c l)) (hl : l.length ≤ 65536) (h1 : deepP l t = r) :
    Calls Try.prog 22 #[.pointer (some ⟨p, 0, none⟩), .int .i64 t] w fun e w' => e = .returned (.int .i64 r) ∧ Hp w0 D R w' := by
  subst h1; exact Depth_at H hp hq hl t
set_option maxHeartbeats 8000000 in
theorem alike_spec {w0 w : World} {D : Nat → Prop} {R : List Ent} {p q mb : Nat} {a b s d : Option Nat} {c cb cs cd : Nat} {l : List En} (H : Hp w0 D (eP p mb a c l :: eE a c l :: eQ q b s d cb cs cd l :: eQn b cb l :: eQs s cs l :: eQd d cd l :: R) w) (hl : l.length ≤ 65536) :
    Calls Try.prog 20 #[.pointer (some ⟨p, 0, none⟩), .pointer (some ⟨q, 0, none⟩)] w fun e w' => e = .returned (.bool true) ∧ Hp w0 D (eP p mb a c l :: eE a c l :: eQ q b s d cb cs cd l :: eQn b cb l :: eQs s cs l :: eQd d cd l :: R) w' := by
  have HL := Lib.hid hl
  obtain ⟨N, hN⟩ : ∃ N, l.length = N := ⟨_, rfl⟩
  have HN := Lib.hid hN
  clear hl hN
  have HWL : Hid (wrap64 ((l.length : Int) + 1) = (l.length : Int) + 1) := Lib.hid (by have := HL.out; unfold wrap64; omega)
  have K1 := onL H (fun u hu => Len_at (i := 0) hu rfl)
  go_enter Try.func20, Try.ntmps20
  go_wp2_with (first
    | ((with_reducible refine gRg ?_); refine wp_region_UH H rfl (by decide +kernel) ?_; replace H := H.drew; repeat' (first | (refine twL_ldskip rfl ?_; (try simp only [Act.put, List.setIfInBounds_toArray, List.set_cons_succ, List.set_cons_zero])) | (refine twL_ld (fun u h => h) rfl rfl ?_; (first | ((repeat ((with_reducible refine gEx ?_); first | (refine kLd 0 rfl rfl (by exact TT _ rfl) rfl ?_) | (refine kLdA 0 rfl rfl (by exact TT _ rfl) (Nat.le_of_ble_eq_true rfl) (by simp only [Nd.cells, Nd.zero, eP, eE, LS2]; rfl) ?_) | (refine nxL ?_))); fail_if_success (with_reducible refine gEx ?_))); (try simp only [Act.put, List.setIfInBounds_toArray, List.set_cons_succ, List.set_cons_zero])) | (refine twL_skip rfl rfl (H) ?_; (try simp only [Act.put, List.setIfInBounds_toArray, List.set_cons_succ, List.set_cons_zero])) | (refine twL_op rfl rfl ?_; intro K hK; first | ((with_reducible refine oStG ?_); (first | (refine oSt H rfl ⟨.int _ _, rfl, ?_⟩) | (refine oSt H rfl ⟨.bool _, rfl, ?_⟩) | (refine oSt H rfl ⟨.slice _ _ _, rfl, ?_⟩) | (refine oSt H rfl ⟨.pointer _, rfl, ?_⟩) | (refine oSt H rfl ⟨.string _, rfl, ?_⟩) | (refine oSt H rfl ⟨.agg (List.toArray _), rfl, ?_⟩)); (first | ((repeat ((with_reducible refine gES ?_); first | (refine kSt 0 rfl rfl (by exact TT _ rfl) rfl (Nat.le_of_ble_eq_true rfl) ?_) | (refine kStA 0 rfl rfl (by exact TT _ rfl) rfl rfl (Nat.le_of_ble_eq_true rfl) ?_) | (refine nxS ?_))); fail_if_success (with_reducible refine gES ?_))); clear H; intro w1 H; simp only [List.set_cons_zero, List.set_cons_succ] at H; (first | refine hK _ _ (H) ?_); clear hK K; (try simp only [Act.put, List.setIfInBounds_toArray, List.set_cons_succ, List.set_cons_zero])) | ((with_reducible refine oBinG ?_); (first | (refine oCmp rfl rfl rfl ?_) | (refine oScmp rfl rfl rfl ?_)); intro rb hrb; cases rb <;> (first | (exfalso; simp at hrb; done) | ((try simp only [CS1, gt_iff_lt, ge_iff_le, ne_eq, Decidable.not_not] at hrb); (try subst hrb); (try (exfalso; omega)))) <;> ((first | refine hK _ _ (H) ?_); clear hK K; (try simp only [Act.put, List.setIfInBounds_toArray, List.set_cons_succ, List.set_cons_zero]))) | ((with_reducible refine oCallG ?_); go_simp; go_at_call 19; (with_reducible refine (K1 _ H).mono ?_); rintro e w1 ⟨rfl, H1⟩; clear H; have H := H1; clear H1; (try simp only []); (first | refine hK _ _ (H) ?_); clear hK K; (try simp only [Act.put, List.setIfInBounds_toArray, List.set_cons_succ, List.set_cons_zero])) | (go_simp; (first | refine hK _ _ (H) ?_); clear hK K)) | (refine twL_nil ?_; refine EndQ.intro (by kernel_rfl) ?_))))
  clear K1
  go_loopg [5] (N + 2) (fun g v5 wr => ∃ k : Nat, v5 = .int .i64 (k : Int) ∧ k + g = N + 2 ∧ Hp w0 D (eP p mb a c l :: eE a c l :: eQ q b s d cb cs cd l :: eQn b cb l :: eQs s cs l :: eQd d cd l :: R) wr)
  case atStart => exact ⟨0, rfl, by omega, H⟩
  case round =>
    clear H
    obtain ⟨k, rfl, hkg, H⟩ := hrel
    have HKG := Lib.hid hkg
    have HWK : Hid (wrap64 ((k : Int) + 1) = (k : Int) + 1) := Lib.hid (by have := HN.out; have := HL.out; unfold wrap64; omega)
    by_cases hk : k < N + 2
    · obtain ⟨⟨y1, y2, y3, y4, y5, y6, y7⟩, hnd⟩ : ∃ nd, nodeP l (k : Int) = nd := ⟨_, rfl⟩
      obtain ⟨r, hr⟩ : ∃ z, inP l (k : Int) = z := ⟨_, rfl⟩
      obtain ⟨sz, hsz⟩ : ∃ z, sizeP l (k : Int) = z := ⟨_, rfl⟩
      obtain ⟨dp, hdp⟩ : ∃ z, deepP l (k : Int) = z := ⟨_, rfl⟩
      have HND := Lib.hid hnd
      have HIN := Lib.hid hr
      have HSZ := Lib.hid hsz
      have HDP := Lib.hid hdp
      have hkc : (k : Int) ≤ (l.length : Int) + 1 := by have := HN.out; omega
      clear hnd hr hsz hdp hk hkg
      go_wp2_with (first
    | ((with_reducible refine gLd ?_); refine eLd H rfl rfl ?_; refine kLd 2 rfl rfl T22 rfl ?_)
    | (go_at_call 30; ((refine (Node_c (n := ⟨y1, y2, y3, y4, y5, y6, y7⟩) (i := 0) (j := 1) H rfl rfl HL.out HND.out HIN.out).mono ?_); rintro e w1 ⟨rfl, H1⟩; clear H; have H := H1; clear H1; (try simp only [Nd.cells])))
    | (go_at_call 52; ((refine (rNode_c (n := ⟨y1, y2, y3, y4, y5, y6, y7⟩) (i := 3) (j := 4) H rfl rfl HL.out HND.out HIN.out).mono ?_); rintro e w1 ⟨rfl, H1⟩; clear H; have H := H1; clear H1; (try simp only [Nd.cells])))
    | (go_at_call 21; ((refine (Size_c (i := 2) (j := 3) H rfl rfl HL.out HSZ.out).mono ?_); rintro e w1 ⟨rfl, H1⟩; clear H; have H := H1; clear H1))
    | (go_at_call 22; ((refine (Depth_c (i := 2) (j := 3) H rfl rfl HL.out HDP.out).mono ?_); rintro e w1 ⟨rfl, H1⟩; clear H; have H := H1; clear H1))
    | (go_at_call 50; ((refine (rSize_c (i := 4) (j := 6) H rfl rfl HL.out HSZ.out).mono ?_); rintro e w1 ⟨rfl, H1⟩; clear H; have H := H1; clear H1))
    | (go_at_call 51; ((refine (rDepth_c (i := 4) (j := 7) H rfl rfl HL.out HDP.out).mono ?_); rintro e w1 ⟨rfl, H1⟩; clear H; have H := H1; clear H1))
    | ((with_reducible refine gEq ?_); first | (refine wl_neN (n := ⟨y1, y2, y3, y4, y5, y6, y7⟩) rfl rfl rfl ?_) | (refine wl_neb rfl rfl rfl ?_))
    | ((with_reducible refine gLd ?_); refine eLd H rfl rfl ?_; first | ((repeat ((with_reducible refine gEx ?_); first | (refine kLd 0 rfl rfl (by exact TT _ rfl) rfl ?_) | (refine kLdA 0 rfl rfl (by exact TT _ rfl) (Nat.le_of_ble_eq_true rfl) (by simp only [Nd.cells, Nd.zero, eP, eE, LS2]; rfl) ?_) | (refine nxL ?_))); fail_if_success (with_reducible refine gEx ?_)))
    | ((with_reducible refine gSt ?_); (first | (refine eSt H rfl rfl ⟨.int _ _, rfl, ?_⟩) | (refine eSt H rfl rfl ⟨.bool _, rfl, ?_⟩) | (refine eSt H rfl rfl ⟨.slice _ _ _, rfl, ?_⟩) | (refine eSt H rfl rfl ⟨.pointer _, rfl, ?_⟩) | (refine eSt H rfl rfl ⟨.string _, rfl, ?_⟩) | (refine eSt H rfl rfl ⟨.agg (List.toArray _), rfl, ?_⟩)); (first | ((repeat ((with_reducible refine gES ?_); first | (refine kSt 0 rfl rfl (by exact TT _ rfl) rfl (Nat.le_of_ble_eq_true rfl) ?_) | (refine kStA 0 rfl rfl (by exact TT _ rfl) rfl rfl (Nat.le_of_ble_eq_true rfl) ?_) | (refine nxS ?_))); fail_if_success (with_reducible refine gES ?_))); clear H; intro w1 H; simp only [List.set_cons_zero, List.set_cons_succ] at H; (try simp only [lay, LS1, Nat.reduceAdd] at H))
    | ((with_reducible refine gEq ?_); (first | (refine wl_cmp rfl rfl rfl rfl ?_) | (refine wl_scmp rfl rfl rfl rfl ?_)); intro rb hrb; cases rb <;> (first | (exfalso; simp at hrb; done) | ((try simp only [CS1, gt_iff_lt, ge_iff_le, ne_eq, Decidable.not_not] at hrb); (try subst hrb); (try (exfalso; omega)))))
    | ((with_reducible refine gAl ?_); (first | (refine al H Z33 rfl rfl ?_)); clear H; intro b1 w1 H))
      any_goals (exfalso; have h9 := HWL.out; simp only [h9] at hrb; omega; done)
      have H2 := H.drop.drop
      clear H
      have H := H2
      clear H2
      go_roundg (gk - 1)
      case measure => (have h8 := HKG.out; have h9 := HN.out; omega)
      case rel => exact ⟨k + 1, by rw [HWK.out]; simp, by (have h8 := HKG.out; have h9 := HN.out; omega), H⟩
    · have hkc : (l.length : Int) + 1 < (k : Int) := by have := HN.out; omega
      clear hk hkg
      go_wp2_with (first
    | ((with_reducible refine gLd ?_); refine eLd H rfl rfl ?_; refine kLd 2 rfl rfl T22 rfl ?_)
    | ((with_reducible refine gEq ?_); (first | (refine wl_cmp rfl rfl rfl rfl ?_) | (refine wl_scmp rfl rfl rfl rfl ?_)); intro rb hrb; cases rb <;> (first | (exfalso; simp at hrb; done) | ((try simp only [CS1, gt_iff_lt, ge_iff_le, ne_eq, Decidable.not_not] at hrb); (try subst hrb); (try (exfalso; omega))))))
      any_goals (exfalso; have h9 := HWL.out; simp only [h9] at hrb; omega; done)
      go_ret
      exact ⟨rfl, H⟩
end Go.Proofs.Ytebecelhcpljaaa
